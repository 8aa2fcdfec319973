/- The code computes what the plain functions say, part 1: no condition. -/
import Derived.Test.YtcdcpambkdlhjaaGreatPlain1
import Derived.Test.YtcdcpambkdlhjaaGreatProg
namespace Go.Proofs.YtcdcpambkdlhjaaGreat.As
open Go Go.Proofs
set_option maxRecDepth 4000
theorem agraffelaw08_Works_ok (n : Nat)  (r : Unit) (h : agraffelaw08_Works n  = some r) : FnL Tryz.prog 82 [] [] (eS 6 eTask ([(Task.mk ([111, 112, 101, 110] : Str) 1000 2 ([] : List Str) ([] : List (List Str)) ([] : List PartCount)), (Task.mk ([99, 108, 101, 97, 110] : Str) 2000 3 ([([111, 112, 101, 110] : Str)] : List Str) ([] : List (List Str)) ([] : List PartCount)), (Task.mk ([112, 97, 116, 99, 104] : Str) 5000 8 ([([99, 108, 101, 97, 110] : Str)] : List Str) ([] : List (List Str)) ([(PartCount.mk ([102, 101, 108, 116] : Str) 2)] : List PartCount)), (Task.mk ([114, 101, 110, 101, 119] : Str) 9000 5 ([([111, 112, 101, 110] : Str)] : List Str) ([] : List (List Str)) ([(PartCount.mk ([102, 101, 108, 116] : Str) 1)] : List PartCount)), (Task.mk ([116, 117, 110, 101] : Str) 4000 4 ([] : List Str) ([([([112, 97, 116, 99, 104] : Str), ([114, 101, 110, 101, 119] : Str)] : List Str)] : List (List Str)) ([] : List PartCount))] : List Task)) [] := by
  dsimp only [agraffelaw08_Works] at h
  refine FnL.ofS (ts := [0]) Tryz.call82 Tryz.func82 rfl rfl (Nat.le_of_ble_eq_true rfl) (Nat.le_of_ble_eq_true rfl) (fun j h => absurd h (Nat.not_lt_zero j)) ?_
  refine sr [] [] ?_
  refine sj ?_
  refine rn 12 [(1, .agg [vt ([111, 112, 101, 110] : Str), vi 1000, vi 2, .emp, .emp, .emp]), (3, .agg [vt ([99, 108, 101, 97, 110] : Str), vi 2000, vi 3, .own 0 0 1, .emp, .emp]), (7, .agg [vt ([112, 97, 116, 99, 104] : Str), vi 5000, vi 8, .own 1 0 1, .emp, .own 2 0 1]), (11, .agg [vt ([114, 101, 110, 101, 119] : Str), vi 9000, vi 5, .own 3 0 1, .emp, .own 4 0 1]), (12, .own 5 0 2)] [some (.row 1 [vt ([111, 112, 101, 110] : Str)]), some (.row 1 [vt ([99, 108, 101, 97, 110] : Str)]), some (.row 2 [.agg [vt ([102, 101, 108, 116] : Str), vi 2]]), some (.row 1 [vt ([111, 112, 101, 110] : Str)]), some (.row 2 [.agg [vt ([102, 101, 108, 116] : Str), vi 1]]), some (.row 1 [vt ([112, 97, 116, 99, 104] : Str), vt ([114, 101, 110, 101, 119] : Str)])] ?_
  refine RegJ.sees (Sees.freeze 5 (fr' := [(1, .agg [vt ([111, 112, 101, 110] : Str), vi 1000, vi 2, .emp, .emp, .emp]), (3, .agg [vt ([99, 108, 101, 97, 110] : Str), vi 2000, vi 3, .own 0 0 1, .emp, .emp]), (7, .agg [vt ([112, 97, 116, 99, 104] : Str), vi 5000, vi 8, .own 1 0 1, .emp, .own 2 0 1]), (11, .agg [vt ([114, 101, 110, 101, 119] : Str), vi 9000, vi 5, .own 3 0 1, .emp, .own 4 0 1]), (12, eS 1 vt ([([112, 97, 116, 99, 104] : Str), ([114, 101, 110, 101, 119] : Str)] : List Str))]) (ob' := [some (.row 1 [vt ([111, 112, 101, 110] : Str)]), some (.row 1 [vt ([99, 108, 101, 97, 110] : Str)]), some (.row 2 [.agg [vt ([102, 101, 108, 116] : Str), vi 2]]), some (.row 1 [vt ([111, 112, 101, 110] : Str)]), some (.row 2 [.agg [vt ([102, 101, 108, 116] : Str), vi 1]]), none]) rfl (frzs_cons rfl (frzs_cons rfl frzs_nil)) (.cons (.refl _) (.cons (.refl _) (.cons (.refl _) (.cons (.refl _) (.cons (.own rfl (by decide)) .nil))))) rfl) ?_
  refine rn 2 [(1, .agg [vt ([111, 112, 101, 110] : Str), vi 1000, vi 2, .emp, .emp, .emp]), (3, .agg [vt ([99, 108, 101, 97, 110] : Str), vi 2000, vi 3, .own 0 0 1, .emp, .emp]), (7, .agg [vt ([112, 97, 116, 99, 104] : Str), vi 5000, vi 8, .own 1 0 1, .emp, .own 2 0 1]), (11, .agg [vt ([114, 101, 110, 101, 119] : Str), vi 9000, vi 5, .own 3 0 1, .emp, .own 4 0 1]), (14, .agg [vt ([116, 117, 110, 101] : Str), vi 4000, vi 4, .emp, .own 6 0 1, .emp])] [some (.row 1 [vt ([111, 112, 101, 110] : Str)]), some (.row 1 [vt ([99, 108, 101, 97, 110] : Str)]), some (.row 2 [.agg [vt ([102, 101, 108, 116] : Str), vi 2]]), some (.row 1 [vt ([111, 112, 101, 110] : Str)]), some (.row 2 [.agg [vt ([102, 101, 108, 116] : Str), vi 1]]), none, some (.row 1 [eS 1 vt ([([112, 97, 116, 99, 104] : Str), ([114, 101, 110, 101, 119] : Str)] : List Str)])] ?_
  refine RegJ.sees (Sees.vco (fr' := [(1, .agg [vt ([111, 112, 101, 110] : Str), vi 1000, vi 2, eS 1 vt ([] : List Str), eS 1 (eS 1 vt) ([] : List (List Str)), eS 2 ePartCount ([] : List PartCount)]), (3, .agg [vt ([99, 108, 101, 97, 110] : Str), vi 2000, vi 3, .own 0 0 1, .emp, .emp]), (7, .agg [vt ([112, 97, 116, 99, 104] : Str), vi 5000, vi 8, .own 1 0 1, .emp, .own 2 0 1]), (11, .agg [vt ([114, 101, 110, 101, 119] : Str), vi 9000, vi 5, .own 3 0 1, .emp, .own 4 0 1]), (14, .agg [vt ([116, 117, 110, 101] : Str), vi 4000, vi 4, .emp, .own 6 0 1, .emp])]) (.cons (.aggs (.cons .same (.cons .same (.cons .same (.cons .sl (.cons .sl (.cons .sl .nil))))))) (.cons .same (.cons .same (.cons .same (.cons .same .nil)))))) ?_
  refine RegJ.sees (Sees.freeze 0 (fr' := [(1, .agg [vt ([111, 112, 101, 110] : Str), vi 1000, vi 2, eS 1 vt ([] : List Str), eS 1 (eS 1 vt) ([] : List (List Str)), eS 2 ePartCount ([] : List PartCount)]), (3, .agg [vt ([99, 108, 101, 97, 110] : Str), vi 2000, vi 3, eS 1 vt ([([111, 112, 101, 110] : Str)] : List Str), .emp, .emp]), (7, .agg [vt ([112, 97, 116, 99, 104] : Str), vi 5000, vi 8, .own 1 0 1, .emp, .own 2 0 1]), (11, .agg [vt ([114, 101, 110, 101, 119] : Str), vi 9000, vi 5, .own 3 0 1, .emp, .own 4 0 1]), (14, .agg [vt ([116, 117, 110, 101] : Str), vi 4000, vi 4, .emp, .own 6 0 1, .emp])]) (ob' := [none, some (.row 1 [vt ([99, 108, 101, 97, 110] : Str)]), some (.row 2 [.agg [vt ([102, 101, 108, 116] : Str), vi 2]]), some (.row 1 [vt ([111, 112, 101, 110] : Str)]), some (.row 2 [.agg [vt ([102, 101, 108, 116] : Str), vi 1]]), none, some (.row 1 [eS 1 vt ([([112, 97, 116, 99, 104] : Str), ([114, 101, 110, 101, 119] : Str)] : List Str)])]) rfl (frzs_cons rfl frzs_nil) (.cons (.refl _) (.cons (frz_agg (.cons (.refl _) (.cons (.refl _) (.cons (.refl _) (.cons (.own rfl (by decide)) (.cons (.refl _) (.cons (.refl _) .nil))))))) (.cons (.refl _) (.cons (.refl _) (.cons (.refl _) .nil))))) rfl) ?_
  refine RegJ.sees (Sees.vco (fr' := [(1, .agg [vt ([111, 112, 101, 110] : Str), vi 1000, vi 2, eS 1 vt ([] : List Str), eS 1 (eS 1 vt) ([] : List (List Str)), eS 2 ePartCount ([] : List PartCount)]), (3, .agg [vt ([99, 108, 101, 97, 110] : Str), vi 2000, vi 3, eS 1 vt ([([111, 112, 101, 110] : Str)] : List Str), eS 1 (eS 1 vt) ([] : List (List Str)), eS 2 ePartCount ([] : List PartCount)]), (7, .agg [vt ([112, 97, 116, 99, 104] : Str), vi 5000, vi 8, .own 1 0 1, .emp, .own 2 0 1]), (11, .agg [vt ([114, 101, 110, 101, 119] : Str), vi 9000, vi 5, .own 3 0 1, .emp, .own 4 0 1]), (14, .agg [vt ([116, 117, 110, 101] : Str), vi 4000, vi 4, .emp, .own 6 0 1, .emp])]) (.cons .same (.cons (.aggs (.cons .same (.cons .same (.cons .same (.cons .same (.cons .sl (.cons .sl .nil))))))) (.cons .same (.cons .same (.cons .same .nil)))))) ?_
  refine RegJ.sees (Sees.freeze 1 (fr' := [(1, .agg [vt ([111, 112, 101, 110] : Str), vi 1000, vi 2, eS 1 vt ([] : List Str), eS 1 (eS 1 vt) ([] : List (List Str)), eS 2 ePartCount ([] : List PartCount)]), (3, .agg [vt ([99, 108, 101, 97, 110] : Str), vi 2000, vi 3, eS 1 vt ([([111, 112, 101, 110] : Str)] : List Str), eS 1 (eS 1 vt) ([] : List (List Str)), eS 2 ePartCount ([] : List PartCount)]), (7, .agg [vt ([112, 97, 116, 99, 104] : Str), vi 5000, vi 8, eS 1 vt ([([99, 108, 101, 97, 110] : Str)] : List Str), .emp, .own 2 0 1]), (11, .agg [vt ([114, 101, 110, 101, 119] : Str), vi 9000, vi 5, .own 3 0 1, .emp, .own 4 0 1]), (14, .agg [vt ([116, 117, 110, 101] : Str), vi 4000, vi 4, .emp, .own 6 0 1, .emp])]) (ob' := [none, none, some (.row 2 [.agg [vt ([102, 101, 108, 116] : Str), vi 2]]), some (.row 1 [vt ([111, 112, 101, 110] : Str)]), some (.row 2 [.agg [vt ([102, 101, 108, 116] : Str), vi 1]]), none, some (.row 1 [eS 1 vt ([([112, 97, 116, 99, 104] : Str), ([114, 101, 110, 101, 119] : Str)] : List Str)])]) rfl (frzs_cons rfl frzs_nil) (.cons (.refl _) (.cons (.refl _) (.cons (frz_agg (.cons (.refl _) (.cons (.refl _) (.cons (.refl _) (.cons (.own rfl (by decide)) (.cons (.refl _) (.cons (.refl _) .nil))))))) (.cons (.refl _) (.cons (.refl _) .nil))))) rfl) ?_
  refine RegJ.sees (Sees.freeze 2 (fr' := [(1, .agg [vt ([111, 112, 101, 110] : Str), vi 1000, vi 2, eS 1 vt ([] : List Str), eS 1 (eS 1 vt) ([] : List (List Str)), eS 2 ePartCount ([] : List PartCount)]), (3, .agg [vt ([99, 108, 101, 97, 110] : Str), vi 2000, vi 3, eS 1 vt ([([111, 112, 101, 110] : Str)] : List Str), eS 1 (eS 1 vt) ([] : List (List Str)), eS 2 ePartCount ([] : List PartCount)]), (7, .agg [vt ([112, 97, 116, 99, 104] : Str), vi 5000, vi 8, eS 1 vt ([([99, 108, 101, 97, 110] : Str)] : List Str), .emp, eS 2 ePartCount ([(PartCount.mk ([102, 101, 108, 116] : Str) 2)] : List PartCount)]), (11, .agg [vt ([114, 101, 110, 101, 119] : Str), vi 9000, vi 5, .own 3 0 1, .emp, .own 4 0 1]), (14, .agg [vt ([116, 117, 110, 101] : Str), vi 4000, vi 4, .emp, .own 6 0 1, .emp])]) (ob' := [none, none, none, some (.row 1 [vt ([111, 112, 101, 110] : Str)]), some (.row 2 [.agg [vt ([102, 101, 108, 116] : Str), vi 1]]), none, some (.row 1 [eS 1 vt ([([112, 97, 116, 99, 104] : Str), ([114, 101, 110, 101, 119] : Str)] : List Str)])]) rfl (frzs_cons rfl frzs_nil) (.cons (.refl _) (.cons (.refl _) (.cons (frz_agg (.cons (.refl _) (.cons (.refl _) (.cons (.refl _) (.cons (.refl _) (.cons (.refl _) (.cons (.own rfl (by decide)) .nil))))))) (.cons (.refl _) (.cons (.refl _) .nil))))) rfl) ?_
  refine RegJ.sees (Sees.vco (fr' := [(1, .agg [vt ([111, 112, 101, 110] : Str), vi 1000, vi 2, eS 1 vt ([] : List Str), eS 1 (eS 1 vt) ([] : List (List Str)), eS 2 ePartCount ([] : List PartCount)]), (3, .agg [vt ([99, 108, 101, 97, 110] : Str), vi 2000, vi 3, eS 1 vt ([([111, 112, 101, 110] : Str)] : List Str), eS 1 (eS 1 vt) ([] : List (List Str)), eS 2 ePartCount ([] : List PartCount)]), (7, .agg [vt ([112, 97, 116, 99, 104] : Str), vi 5000, vi 8, eS 1 vt ([([99, 108, 101, 97, 110] : Str)] : List Str), eS 1 (eS 1 vt) ([] : List (List Str)), eS 2 ePartCount ([(PartCount.mk ([102, 101, 108, 116] : Str) 2)] : List PartCount)]), (11, .agg [vt ([114, 101, 110, 101, 119] : Str), vi 9000, vi 5, .own 3 0 1, .emp, .own 4 0 1]), (14, .agg [vt ([116, 117, 110, 101] : Str), vi 4000, vi 4, .emp, .own 6 0 1, .emp])]) (.cons .same (.cons .same (.cons (.aggs (.cons .same (.cons .same (.cons .same (.cons .same (.cons .sl (.cons .same .nil))))))) (.cons .same (.cons .same .nil)))))) ?_
  refine RegJ.sees (Sees.freeze 3 (fr' := [(1, .agg [vt ([111, 112, 101, 110] : Str), vi 1000, vi 2, eS 1 vt ([] : List Str), eS 1 (eS 1 vt) ([] : List (List Str)), eS 2 ePartCount ([] : List PartCount)]), (3, .agg [vt ([99, 108, 101, 97, 110] : Str), vi 2000, vi 3, eS 1 vt ([([111, 112, 101, 110] : Str)] : List Str), eS 1 (eS 1 vt) ([] : List (List Str)), eS 2 ePartCount ([] : List PartCount)]), (7, .agg [vt ([112, 97, 116, 99, 104] : Str), vi 5000, vi 8, eS 1 vt ([([99, 108, 101, 97, 110] : Str)] : List Str), eS 1 (eS 1 vt) ([] : List (List Str)), eS 2 ePartCount ([(PartCount.mk ([102, 101, 108, 116] : Str) 2)] : List PartCount)]), (11, .agg [vt ([114, 101, 110, 101, 119] : Str), vi 9000, vi 5, eS 1 vt ([([111, 112, 101, 110] : Str)] : List Str), .emp, .own 4 0 1]), (14, .agg [vt ([116, 117, 110, 101] : Str), vi 4000, vi 4, .emp, .own 6 0 1, .emp])]) (ob' := [none, none, none, none, some (.row 2 [.agg [vt ([102, 101, 108, 116] : Str), vi 1]]), none, some (.row 1 [eS 1 vt ([([112, 97, 116, 99, 104] : Str), ([114, 101, 110, 101, 119] : Str)] : List Str)])]) rfl (frzs_cons rfl frzs_nil) (.cons (.refl _) (.cons (.refl _) (.cons (.refl _) (.cons (frz_agg (.cons (.refl _) (.cons (.refl _) (.cons (.refl _) (.cons (.own rfl (by decide)) (.cons (.refl _) (.cons (.refl _) .nil))))))) (.cons (.refl _) .nil))))) rfl) ?_
  refine RegJ.sees (Sees.freeze 4 (fr' := [(1, .agg [vt ([111, 112, 101, 110] : Str), vi 1000, vi 2, eS 1 vt ([] : List Str), eS 1 (eS 1 vt) ([] : List (List Str)), eS 2 ePartCount ([] : List PartCount)]), (3, .agg [vt ([99, 108, 101, 97, 110] : Str), vi 2000, vi 3, eS 1 vt ([([111, 112, 101, 110] : Str)] : List Str), eS 1 (eS 1 vt) ([] : List (List Str)), eS 2 ePartCount ([] : List PartCount)]), (7, .agg [vt ([112, 97, 116, 99, 104] : Str), vi 5000, vi 8, eS 1 vt ([([99, 108, 101, 97, 110] : Str)] : List Str), eS 1 (eS 1 vt) ([] : List (List Str)), eS 2 ePartCount ([(PartCount.mk ([102, 101, 108, 116] : Str) 2)] : List PartCount)]), (11, .agg [vt ([114, 101, 110, 101, 119] : Str), vi 9000, vi 5, eS 1 vt ([([111, 112, 101, 110] : Str)] : List Str), .emp, eS 2 ePartCount ([(PartCount.mk ([102, 101, 108, 116] : Str) 1)] : List PartCount)]), (14, .agg [vt ([116, 117, 110, 101] : Str), vi 4000, vi 4, .emp, .own 6 0 1, .emp])]) (ob' := [none, none, none, none, none, none, some (.row 1 [eS 1 vt ([([112, 97, 116, 99, 104] : Str), ([114, 101, 110, 101, 119] : Str)] : List Str)])]) rfl (frzs_cons rfl frzs_nil) (.cons (.refl _) (.cons (.refl _) (.cons (.refl _) (.cons (frz_agg (.cons (.refl _) (.cons (.refl _) (.cons (.refl _) (.cons (.refl _) (.cons (.refl _) (.cons (.own rfl (by decide)) .nil))))))) (.cons (.refl _) .nil))))) rfl) ?_
  refine RegJ.sees (Sees.vco (fr' := [(1, .agg [vt ([111, 112, 101, 110] : Str), vi 1000, vi 2, eS 1 vt ([] : List Str), eS 1 (eS 1 vt) ([] : List (List Str)), eS 2 ePartCount ([] : List PartCount)]), (3, .agg [vt ([99, 108, 101, 97, 110] : Str), vi 2000, vi 3, eS 1 vt ([([111, 112, 101, 110] : Str)] : List Str), eS 1 (eS 1 vt) ([] : List (List Str)), eS 2 ePartCount ([] : List PartCount)]), (7, .agg [vt ([112, 97, 116, 99, 104] : Str), vi 5000, vi 8, eS 1 vt ([([99, 108, 101, 97, 110] : Str)] : List Str), eS 1 (eS 1 vt) ([] : List (List Str)), eS 2 ePartCount ([(PartCount.mk ([102, 101, 108, 116] : Str) 2)] : List PartCount)]), (11, .agg [vt ([114, 101, 110, 101, 119] : Str), vi 9000, vi 5, eS 1 vt ([([111, 112, 101, 110] : Str)] : List Str), eS 1 (eS 1 vt) ([] : List (List Str)), eS 2 ePartCount ([(PartCount.mk ([102, 101, 108, 116] : Str) 1)] : List PartCount)]), (14, .agg [vt ([116, 117, 110, 101] : Str), vi 4000, vi 4, .emp, .own 6 0 1, .emp])]) (.cons .same (.cons .same (.cons .same (.cons (.aggs (.cons .same (.cons .same (.cons .same (.cons .same (.cons .sl (.cons .same .nil))))))) (.cons .same .nil)))))) ?_
  refine RegJ.sees (Sees.freeze 6 (fr' := [(1, .agg [vt ([111, 112, 101, 110] : Str), vi 1000, vi 2, eS 1 vt ([] : List Str), eS 1 (eS 1 vt) ([] : List (List Str)), eS 2 ePartCount ([] : List PartCount)]), (3, .agg [vt ([99, 108, 101, 97, 110] : Str), vi 2000, vi 3, eS 1 vt ([([111, 112, 101, 110] : Str)] : List Str), eS 1 (eS 1 vt) ([] : List (List Str)), eS 2 ePartCount ([] : List PartCount)]), (7, .agg [vt ([112, 97, 116, 99, 104] : Str), vi 5000, vi 8, eS 1 vt ([([99, 108, 101, 97, 110] : Str)] : List Str), eS 1 (eS 1 vt) ([] : List (List Str)), eS 2 ePartCount ([(PartCount.mk ([102, 101, 108, 116] : Str) 2)] : List PartCount)]), (11, .agg [vt ([114, 101, 110, 101, 119] : Str), vi 9000, vi 5, eS 1 vt ([([111, 112, 101, 110] : Str)] : List Str), eS 1 (eS 1 vt) ([] : List (List Str)), eS 2 ePartCount ([(PartCount.mk ([102, 101, 108, 116] : Str) 1)] : List PartCount)]), (14, .agg [vt ([116, 117, 110, 101] : Str), vi 4000, vi 4, .emp, eS 1 (eS 1 vt) ([([([112, 97, 116, 99, 104] : Str), ([114, 101, 110, 101, 119] : Str)] : List Str)] : List (List Str)), .emp])]) (ob' := [none, none, none, none, none, none, none]) rfl (frzs_cons rfl frzs_nil) (.cons (.refl _) (.cons (.refl _) (.cons (.refl _) (.cons (.refl _) (.cons (frz_agg (.cons (.refl _) (.cons (.refl _) (.cons (.refl _) (.cons (.refl _) (.cons (.own rfl (by decide)) (.cons (.refl _) .nil))))))) .nil))))) rfl) ?_
  refine RegJ.sees (Sees.vco (fr' := [(1, .agg [vt ([111, 112, 101, 110] : Str), vi 1000, vi 2, eS 1 vt ([] : List Str), eS 1 (eS 1 vt) ([] : List (List Str)), eS 2 ePartCount ([] : List PartCount)]), (3, .agg [vt ([99, 108, 101, 97, 110] : Str), vi 2000, vi 3, eS 1 vt ([([111, 112, 101, 110] : Str)] : List Str), eS 1 (eS 1 vt) ([] : List (List Str)), eS 2 ePartCount ([] : List PartCount)]), (7, .agg [vt ([112, 97, 116, 99, 104] : Str), vi 5000, vi 8, eS 1 vt ([([99, 108, 101, 97, 110] : Str)] : List Str), eS 1 (eS 1 vt) ([] : List (List Str)), eS 2 ePartCount ([(PartCount.mk ([102, 101, 108, 116] : Str) 2)] : List PartCount)]), (11, .agg [vt ([114, 101, 110, 101, 119] : Str), vi 9000, vi 5, eS 1 vt ([([111, 112, 101, 110] : Str)] : List Str), eS 1 (eS 1 vt) ([] : List (List Str)), eS 2 ePartCount ([(PartCount.mk ([102, 101, 108, 116] : Str) 1)] : List PartCount)]), (14, .agg [vt ([116, 117, 110, 101] : Str), vi 4000, vi 4, eS 1 vt ([] : List Str), eS 1 (eS 1 vt) ([([([112, 97, 116, 99, 104] : Str), ([114, 101, 110, 101, 119] : Str)] : List Str)] : List (List Str)), eS 2 ePartCount ([] : List PartCount)])]) (.cons .same (.cons .same (.cons .same (.cons .same (.cons (.aggs (.cons .same (.cons .same (.cons .same (.cons .sl (.cons .same (.cons .sl .nil))))))) .nil)))))) ?_
  refine jq 2 [(0, .own 7 0 5)] [none, none, none, none, none, none, none, some (.row 6 [.agg [vt ([111, 112, 101, 110] : Str), vi 1000, vi 2, eS 1 vt ([] : List Str), eS 1 (eS 1 vt) ([] : List (List Str)), eS 2 ePartCount ([] : List PartCount)], .agg [vt ([99, 108, 101, 97, 110] : Str), vi 2000, vi 3, eS 1 vt ([([111, 112, 101, 110] : Str)] : List Str), eS 1 (eS 1 vt) ([] : List (List Str)), eS 2 ePartCount ([] : List PartCount)], .agg [vt ([112, 97, 116, 99, 104] : Str), vi 5000, vi 8, eS 1 vt ([([99, 108, 101, 97, 110] : Str)] : List Str), eS 1 (eS 1 vt) ([] : List (List Str)), eS 2 ePartCount ([(PartCount.mk ([102, 101, 108, 116] : Str) 2)] : List PartCount)], .agg [vt ([114, 101, 110, 101, 119] : Str), vi 9000, vi 5, eS 1 vt ([([111, 112, 101, 110] : Str)] : List Str), eS 1 (eS 1 vt) ([] : List (List Str)), eS 2 ePartCount ([(PartCount.mk ([102, 101, 108, 116] : Str) 1)] : List PartCount)], .agg [vt ([116, 117, 110, 101] : Str), vi 4000, vi 4, eS 1 vt ([] : List Str), eS 1 (eS 1 vt) ([([([112, 97, 116, 99, 104] : Str), ([114, 101, 110, 101, 119] : Str)] : List Str)] : List (List Str)), eS 2 ePartCount ([] : List PartCount)]])] ?_
  refine TriE.ret ?_
  have h := Option.some.inj h
  subst h
  exact DoneS.ret (S' := ⟨[(0, eS 6 eTask ([(Task.mk ([111, 112, 101, 110] : Str) 1000 2 ([] : List Str) ([] : List (List Str)) ([] : List PartCount)), (Task.mk ([99, 108, 101, 97, 110] : Str) 2000 3 ([([111, 112, 101, 110] : Str)] : List Str) ([] : List (List Str)) ([] : List PartCount)), (Task.mk ([112, 97, 116, 99, 104] : Str) 5000 8 ([([99, 108, 101, 97, 110] : Str)] : List Str) ([] : List (List Str)) ([(PartCount.mk ([102, 101, 108, 116] : Str) 2)] : List PartCount)), (Task.mk ([114, 101, 110, 101, 119] : Str) 9000 5 ([([111, 112, 101, 110] : Str)] : List Str) ([] : List (List Str)) ([(PartCount.mk ([102, 101, 108, 116] : Str) 1)] : List PartCount)), (Task.mk ([116, 117, 110, 101] : Str) 4000 4 ([] : List Str) ([([([112, 97, 116, 99, 104] : Str), ([114, 101, 110, 101, 119] : Str)] : List Str)] : List (List Str)) ([] : List PartCount))] : List Task))], []⟩) (Sees.trans (Sees.freeze 7 (fr' := [(0, eS 6 eTask ([(Task.mk ([111, 112, 101, 110] : Str) 1000 2 ([] : List Str) ([] : List (List Str)) ([] : List PartCount)), (Task.mk ([99, 108, 101, 97, 110] : Str) 2000 3 ([([111, 112, 101, 110] : Str)] : List Str) ([] : List (List Str)) ([] : List PartCount)), (Task.mk ([112, 97, 116, 99, 104] : Str) 5000 8 ([([99, 108, 101, 97, 110] : Str)] : List Str) ([] : List (List Str)) ([(PartCount.mk ([102, 101, 108, 116] : Str) 2)] : List PartCount)), (Task.mk ([114, 101, 110, 101, 119] : Str) 9000 5 ([([111, 112, 101, 110] : Str)] : List Str) ([] : List (List Str)) ([(PartCount.mk ([102, 101, 108, 116] : Str) 1)] : List PartCount)), (Task.mk ([116, 117, 110, 101] : Str) 4000 4 ([] : List Str) ([([([112, 97, 116, 99, 104] : Str), ([114, 101, 110, 101, 119] : Str)] : List Str)] : List (List Str)) ([] : List PartCount))] : List Task))]) (ob' := [none, none, none, none, none, none, none, none]) rfl (frzs_cons rfl (frzs_cons rfl (frzs_cons rfl (frzs_cons rfl (frzs_cons rfl frzs_nil))))) (.cons (.own rfl (by decide)) .nil) rfl) (sc [] (by decide) (by kernel_rfl) ObRen.nil rfl rfl)) rfl rfl
theorem agraffelaw08_Shelf_ok (n : Nat)  (r : Unit) (h : agraffelaw08_Shelf n  = some r) : FnL Tryz.prog 83 [] [] (eS 3 eStocked ([(Stocked.mk ([102, 101, 108, 116] : Str) 500 5)] : List Stocked)) [] := by
  dsimp only [agraffelaw08_Shelf] at h
  refine FnL.ofS (ts := [0]) Tryz.call83 Tryz.func83 rfl rfl (Nat.le_of_ble_eq_true rfl) (Nat.le_of_ble_eq_true rfl) (fun j h => absurd h (Nat.not_lt_zero j)) ?_
  refine sr [] [] ?_
  refine sr [(0, .own 0 0 1)] [some (.row 3 [.agg [vt ([102, 101, 108, 116] : Str), vi 500, vi 5]])] ?_
  refine TriE.ret ?_
  have h := Option.some.inj h
  subst h
  exact DoneS.ret (S' := ⟨[(0, eS 3 eStocked ([(Stocked.mk ([102, 101, 108, 116] : Str) 500 5)] : List Stocked))], []⟩) (Sees.trans (Sees.freeze 0 (fr' := [(0, eS 3 eStocked ([(Stocked.mk ([102, 101, 108, 116] : Str) 500 5)] : List Stocked))]) (ob' := [none]) rfl (frzs_cons rfl frzs_nil) (.cons (.own rfl (by decide)) .nil) rfl) (sc [] (by decide) (by kernel_rfl) ObRen.nil rfl rfl)) rfl rfl
theorem restore_isName_ok (n : Nat) (a0 : Str) (r : Bool) (h : restore_isName n a0 = some r) : FnL Tryz.prog 89 [vt a0] [] (vb r) [] := by
  dsimp only [restore_isName] at h
  refine FnL.ofS (ts := [2]) Tryz.call89 Tryz.func89 rfl rfl (Nat.le_of_ble_eq_true rfl) (Nat.le_of_ble_eq_true rfl) (fun j h => absurd h (Nat.not_lt_zero j)) ?_
  refine sr [(0, vt a0)] [] ?_
  refine TriE.seqK h (fun (_ : Unit) => St.mk [(0, vt a0)] []) ?_ ?_
  · rintro ⟨⟩ h
    refine sj ?_
    refine rn 3 [(0, vt a0), (49, vb (!(a0 == ([] : Str))))] [] ?_
    refine RegJ.op (Op1.valk (v := vt a0) _ _ (cy (IG 50 (.mov (.t 0)) 49 true)) rfl (by kernel_rfl) (fun hg => (.cons rfl .nil))) ?_
    refine RegJ.op (Op1.valg (v := vi (a0.length : Int)) _ _ (cy (IG 51 (.len 1 (.t 50)) 49 true)) rfl (fun hg => (ok_len_t rfl)) (fun hg => (.cons hg .nil))) ?_
    refine RegJ.op (Op1.valg (v := vb (decide (a0.length ≤ 12))) _ _ (cy (IG 52 (.bin .leq false (.t 51) (.c (.p (.int .i64 12)))) 49 true)) rfl (fun hg => (n_leq (i := a0.length) (j := 12) rfl rfl)) (fun hg => (.cons hg (.cons rfl .nil)))) ?_
    refine RegJ.op (Op1.and (cy (I0 53 (.pick (.t 49) (.t 52) (.c (.p (.bool false)))))) rfl rfl (by first | exact hokA1 | exact hokA0 | simp)) ?_
    refine jq 1 [(2, vb ((!(a0 == ([] : Str))) && (decide (a0.length ≤ 12))))] [] ?_
    refine TriE.ret ?_
    have h := Option.some.inj h
    subst h
    exact DoneS.ret (S' := ⟨[(2, vb ((!(a0 == ([] : Str))) && (decide (a0.length ≤ 12))))], []⟩) Sees.refl rfl rfl
  intro k1 h
  refine sj ?_
  refine rn 1 [(0, vt a0), (6, vt a0)] [] ?_
  refine RegJ.op (Op1.bytes (s := ⟨⟨a0⟩⟩) _ (cy (I0 7 (.bytes (.t 6)))) rfl (.cons rfl .nil)) ?_
  refine jv (vi (a0.length : Int)) (cy (I0 8 (.len 0 (.t 7)))) (ok_len_m rfl) rfl ?_
  refine jq 1 [(0, vt a0), (7, eS 1 vbyte a0), (8, vi (a0.length : Int)), (9, vi 0)] [] ?_
  refine TriE.block ?_
  refine TriE.sees (S' := ⟨[(0, vt a0), (7, eS 1 vbyte a0), (8, vi (a0.length : Int)), (9, vi 0)], []⟩) sy ?_
  refine TriE.loopN h (fun (v1 : Nat) => St.mk [(0, vt a0), (7, eS 1 vbyte a0), (8, vi (a0.length : Int)), (9, vi v1)] []) rfl ?_
  clear h
  rintro back v1 h
  dsimp only [restore_isName_L1] at h
  refine sj ?_
  refine jv (vb (decide (v1 < a0.length))) (cy (I0 10 (.bin .lss false (.t 9) (.t 8)))) (n_lss (i := v1) (j := a0.length) rfl rfl) rfl ?_
  refine jp [(0, vt a0), (7, eS 1 vbyte a0), (8, vi (a0.length : Int)), (9, vi v1), (10, vb (decide (v1 < a0.length)))] ?_
  refine TriE.seq ?_
  refine TriE.cond (b := decide (v1 < a0.length)) rfl (fun c1 => ?_) (fun c1 => ?_)
  · have h := cond_t h c1
    refine TriE.skip ?_
    refine TriE.seq ?_
    refine TriE.block ?_
    refine sj ?_
    refine rn 1 [(0, vt a0), (7, eS 1 vbyte a0), (8, vi (a0.length : Int)), (9, vi v1), (11, vi v1)] [] ?_
    refine jv (.fptr 1 (List.map vbyte a0) v1 0) (cy (I0 12 (.iaddr 1 (.t 7) (.t 9)))) (ok_iaddr_m (j := v1) rfl rfl rfl c1) rfl ?_
    refine jv (vk .u8 (((ix a0 v1).toNat : Nat) : Int)) (cy (I0 13 (.load false 1 (.t 12)))) (ok_load_fm (v := vk .u8 (((ix a0 v1).toNat : Nat) : Int)) rfl c1 rfl) rfl ?_
    refine jq 2 [(0, vt a0), (7, eS 1 vbyte a0), (8, vi (a0.length : Int)), (9, vi v1), (3, vi v1), (4, vk .u8 (((ix a0 v1).toNat : Nat) : Int))] [] ?_
    refine sj ?_
    refine rn 3 [(0, vt a0), (7, eS 1 vbyte a0), (8, vi (a0.length : Int)), (9, vi v1), (3, vi v1), (4, vk .u8 (((ix a0 v1).toNat : Nat) : Int)), (16, vb (decide ((97 : Int) ≤ (((ix a0 v1).toNat : Nat) : Int))))] [] ?_
    refine RegJ.op (Op1.valk (v := vk .u8 (((ix a0 v1).toNat : Nat) : Int)) _ _ (cy (IG 17 (.mov (.t 4)) 16 true)) rfl (by kernel_rfl) (fun hg => (.cons rfl .nil))) ?_
    refine RegJ.op (Op1.valk (v := vb (decide ((((ix a0 v1).toNat : Nat) : Int) ≤ (122 : Int)))) _ _ (cy (IG 18 (.bin .leq false (.t 17) (.c (.p (.int .u8 122)))) 16 true)) rfl (by kernel_rfl) (fun hg => (.cons hg (.cons rfl .nil)))) ?_
    refine RegJ.op (Op1.and (cy (I0 19 (.pick (.t 16) (.t 18) (.c (.p (.bool false)))))) rfl rfl (by first | exact hokA1 | exact hokA0 | simp)) ?_
    refine rn 1 [(0, vt a0), (7, eS 1 vbyte a0), (8, vi (a0.length : Int)), (9, vi v1), (3, vi v1), (4, vk .u8 (((ix a0 v1).toNat : Nat) : Int)), (17, .cond (decide ((97 : Int) ≤ (((ix a0 v1).toNat : Nat) : Int))) (vk .u8 (((ix a0 v1).toNat : Nat) : Int))), (18, .cond (decide ((97 : Int) ≤ (((ix a0 v1).toNat : Nat) : Int))) (vb (decide ((((ix a0 v1).toNat : Nat) : Int) ≤ (122 : Int))))), (20, vb ((decide ((97 : Int) ≤ (((ix a0 v1).toNat : Nat) : Int))) && (decide ((((ix a0 v1).toNat : Nat) : Int) ≤ (122 : Int)))))] [] ?_
    refine RegJ.op (Op1.valk (v := vk .u8 (((ix a0 v1).toNat : Nat) : Int)) _ _ (cy (IG 21 (.mov (.t 4)) 20 false)) rfl (by kernel_rfl) (fun hg => (.cons rfl .nil))) ?_
    refine RegJ.op (Op1.valk (v := vb (decide ((65 : Int) ≤ (((ix a0 v1).toNat : Nat) : Int)))) _ _ (cy (IG 22 (.bin .geq false (.t 21) (.c (.p (.int .u8 65)))) 20 false)) rfl (by kernel_rfl) (fun hg => (.cons hg (.cons rfl .nil)))) ?_
    refine RegJ.op (Op1.valk (v := vb (decide ((65 : Int) ≤ (((ix a0 v1).toNat : Nat) : Int)))) _ _ (cy (IG 23 (.mov (.t 22)) 20 false)) rfl (by kernel_rfl) (fun hg => (.cons hg .nil))) ?_
    refine RegJ.op (Op1.valk (v := vk .u8 (((ix a0 v1).toNat : Nat) : Int)) _ _ (cy (IG 24 (.mov (.t 4)) 23 true)) rfl (by kernel_rfl) (fun hg => (.cons rfl .nil))) ?_
    refine RegJ.op (Op1.valk (v := vb (decide ((((ix a0 v1).toNat : Nat) : Int) ≤ (90 : Int)))) _ _ (cy (IG 25 (.bin .leq false (.t 24) (.c (.p (.int .u8 90)))) 23 true)) rfl (by kernel_rfl) (fun hg => (.cons hg (.cons rfl .nil)))) ?_
    refine RegJ.op (Op1.andg (g := !((decide ((97 : Int) ≤ (((ix a0 v1).toNat : Nat) : Int))) && (decide ((((ix a0 v1).toNat : Nat) : Int) ≤ (122 : Int))))) (cy (IG 26 (.pick (.t 23) (.t 25) (.c (.p (.bool false)))) 20 false)) rfl rfl rfl (fun hg => by first | exact hokA2 hg | exact hokA3 hg | exact hokA1 | exact hokA0 | (rw [hg]; simp) | simp_all)) ?_
    refine RegJ.op (Op1.or (cy (I0 27 (.pick (.t 20) (.c (.p (.bool true))) (.t 26)))) rfl rfl (by first | exact hokO1 | exact hokO0 | simp)) ?_
    refine jq 1 [(0, vt a0), (7, eS 1 vbyte a0), (8, vi (a0.length : Int)), (9, vi v1), (3, vi v1), (4, vk .u8 (((ix a0 v1).toNat : Nat) : Int)), (5, vb (((decide ((97 : Int) ≤ (((ix a0 v1).toNat : Nat) : Int))) && (decide ((((ix a0 v1).toNat : Nat) : Int) ≤ (122 : Int)))) || ((decide ((65 : Int) ≤ (((ix a0 v1).toNat : Nat) : Int))) && (decide ((((ix a0 v1).toNat : Nat) : Int) ≤ (90 : Int))))))] [] ?_
    refine sj ?_
    refine rn 3 [(0, vt a0), (7, eS 1 vbyte a0), (8, vi (a0.length : Int)), (9, vi v1), (3, vi v1), (4, vk .u8 (((ix a0 v1).toNat : Nat) : Int)), (30, vb (!(((decide ((97 : Int) ≤ (((ix a0 v1).toNat : Nat) : Int))) && (decide ((((ix a0 v1).toNat : Nat) : Int) ≤ (122 : Int)))) || ((decide ((65 : Int) ≤ (((ix a0 v1).toNat : Nat) : Int))) && (decide ((((ix a0 v1).toNat : Nat) : Int) ≤ (90 : Int)))))))] [] ?_
    refine RegJ.op (Op1.valk (v := vi v1) _ _ (cy (IG 31 (.mov (.t 3)) 30 true)) rfl (by kernel_rfl) (fun hg => (.cons rfl .nil))) ?_
    refine RegJ.op (Op1.valg (v := vb (decide (v1 = 0))) _ _ (cy (IG 32 (.bin .eql false (.t 31) (.c (.p (.int .i64 0)))) 30 true)) rfl (fun hg => (n_eql (i := v1) (j := 0) rfl rfl)) (fun hg => (.cons hg (.cons rfl .nil)))) ?_
    refine RegJ.op (Op1.valk (v := vb (decide (v1 = 0))) _ _ (cy (IG 33 (.mov (.t 32)) 30 true)) rfl (by kernel_rfl) (fun hg => (.cons hg .nil))) ?_
    refine RegJ.op (Op1.valk (v := vk .u8 (((ix a0 v1).toNat : Nat) : Int)) _ _ (cy (IG 34 (.mov (.t 4)) 33 false)) rfl (by kernel_rfl) (fun hg => (.cons rfl .nil))) ?_
    refine RegJ.op (Op1.valk (v := vb ((((ix a0 v1).toNat : Nat) : Int) != (45 : Int))) _ _ (cy (IG 35 (.bin .neq false (.t 34) (.c (.p (.int .u8 45)))) 33 false)) rfl (by kernel_rfl) (fun hg => (.cons hg (.cons rfl .nil)))) ?_
    refine RegJ.op (Op1.valk (v := vb ((((ix a0 v1).toNat : Nat) : Int) != (45 : Int))) _ _ (cy (IG 36 (.mov (.t 35)) 33 false)) rfl (by kernel_rfl) (fun hg => (.cons hg .nil))) ?_
    refine RegJ.op (Op1.valk (v := vk .u8 (((ix a0 v1).toNat : Nat) : Int)) _ _ (cy (IG 37 (.mov (.t 4)) 36 true)) rfl (by kernel_rfl) (fun hg => (.cons rfl .nil))) ?_
    refine RegJ.op (Op1.valk (v := vb (decide ((((ix a0 v1).toNat : Nat) : Int) < (48 : Int)))) _ _ (cy (IG 38 (.bin .lss false (.t 37) (.c (.p (.int .u8 48)))) 36 true)) rfl (by kernel_rfl) (fun hg => (.cons hg (.cons rfl .nil)))) ?_
    refine RegJ.op (Op1.valk (v := vb (decide ((((ix a0 v1).toNat : Nat) : Int) < (48 : Int)))) _ _ (cy (IG 39 (.mov (.t 38)) 36 true)) rfl (by kernel_rfl) (fun hg => (.cons hg .nil))) ?_
    refine RegJ.op (Op1.valk (v := vk .u8 (((ix a0 v1).toNat : Nat) : Int)) _ _ (cy (IG 40 (.mov (.t 4)) 39 false)) rfl (by kernel_rfl) (fun hg => (.cons rfl .nil))) ?_
    refine RegJ.op (Op1.valk (v := vb (decide ((57 : Int) < (((ix a0 v1).toNat : Nat) : Int)))) _ _ (cy (IG 41 (.bin .gtr false (.t 40) (.c (.p (.int .u8 57)))) 39 false)) rfl (by kernel_rfl) (fun hg => (.cons hg (.cons rfl .nil)))) ?_
    refine RegJ.op (Op1.org (g := ((!(((decide ((97 : Int) ≤ (((ix a0 v1).toNat : Nat) : Int))) && (decide ((((ix a0 v1).toNat : Nat) : Int) ≤ (122 : Int)))) || ((decide ((65 : Int) ≤ (((ix a0 v1).toNat : Nat) : Int))) && (decide ((((ix a0 v1).toNat : Nat) : Int) ≤ (90 : Int)))))) && !(decide (v1 = 0))) && ((((ix a0 v1).toNat : Nat) : Int) != (45 : Int))) (cy (IG 42 (.pick (.t 39) (.c (.p (.bool true))) (.t 41)) 36 true)) rfl rfl rfl (fun hg => by first | exact hokO2 hg | exact hokO3 hg | exact hokO1 | exact hokO0 | (rw [hg]; simp) | simp_all)) ?_
    refine RegJ.op (Op1.andg (g := (!(((decide ((97 : Int) ≤ (((ix a0 v1).toNat : Nat) : Int))) && (decide ((((ix a0 v1).toNat : Nat) : Int) ≤ (122 : Int)))) || ((decide ((65 : Int) ≤ (((ix a0 v1).toNat : Nat) : Int))) && (decide ((((ix a0 v1).toNat : Nat) : Int) ≤ (90 : Int)))))) && !(decide (v1 = 0))) (cy (IG 43 (.pick (.t 36) (.t 42) (.c (.p (.bool false)))) 33 false)) rfl rfl rfl (fun hg => by first | exact hokA2 hg | exact hokA3 hg | exact hokA1 | exact hokA0 | (rw [hg]; simp) | simp_all)) ?_
    refine RegJ.op (Op1.org (g := !(((decide ((97 : Int) ≤ (((ix a0 v1).toNat : Nat) : Int))) && (decide ((((ix a0 v1).toNat : Nat) : Int) ≤ (122 : Int)))) || ((decide ((65 : Int) ≤ (((ix a0 v1).toNat : Nat) : Int))) && (decide ((((ix a0 v1).toNat : Nat) : Int) ≤ (90 : Int)))))) (cy (IG 44 (.pick (.t 33) (.c (.p (.bool true))) (.t 43)) 30 true)) rfl rfl rfl (fun hg => by first | exact hokO2 hg | exact hokO3 hg | exact hokO1 | exact hokO0 | (rw [hg]; simp) | simp_all)) ?_
    refine RegJ.op (Op1.and (cy (I0 45 (.pick (.t 30) (.t 44) (.c (.p (.bool false)))))) rfl rfl (by first | exact hokA1 | exact hokA0 | simp)) ?_
    refine jp [(0, vt a0), (7, eS 1 vbyte a0), (8, vi (a0.length : Int)), (9, vi v1), (45, vb ((!(((decide ((97 : Int) ≤ (((ix a0 v1).toNat : Nat) : Int))) && (decide ((((ix a0 v1).toNat : Nat) : Int) ≤ (122 : Int)))) || ((decide ((65 : Int) ≤ (((ix a0 v1).toNat : Nat) : Int))) && (decide ((((ix a0 v1).toNat : Nat) : Int) ≤ (90 : Int)))))) && ((decide (v1 = 0)) || (((((ix a0 v1).toNat : Nat) : Int) != (45 : Int)) && ((decide ((((ix a0 v1).toNat : Nat) : Int) < (48 : Int))) || (decide ((57 : Int) < (((ix a0 v1).toNat : Nat) : Int))))))))] ?_
    refine TriE.cond (b := (!(((decide ((97 : Int) ≤ (((ix a0 v1).toNat : Nat) : Int))) && (decide ((((ix a0 v1).toNat : Nat) : Int) ≤ (122 : Int)))) || ((decide ((65 : Int) ≤ (((ix a0 v1).toNat : Nat) : Int))) && (decide ((((ix a0 v1).toNat : Nat) : Int) ≤ (90 : Int)))))) && ((decide (v1 = 0)) || (((((ix a0 v1).toNat : Nat) : Int) != (45 : Int)) && ((decide ((((ix a0 v1).toNat : Nat) : Int) < (48 : Int))) || (decide ((57 : Int) < (((ix a0 v1).toNat : Nat) : Int))))))) rfl (fun c2 => ?_) (fun c2 => ?_)
    · have h := cond_t h c2
      refine sr [(2, vb false)] [] ?_
      refine TriE.ret ?_
      have h := Option.some.inj h
      subst h
      exact DoneS.ret (S' := ⟨[(2, vb false)], []⟩) Sees.refl rfl rfl
    have h := cond_f h c2
    refine TriE.skip ?_
    refine TriE.regJ ?_
    obtain ⟨c3, h⟩ := chk_some h
    refine jv (vi ((v1 + 1 : Nat) : Int)) (cy (I0 46 (.bin .add false (.t 9) (.c (.p (.int .i64 1)))))) (r_addn (i := v1) (j := 1) rfl rfl c3) rfl ?_
    refine jq 1 [(0, vt a0), (7, eS 1 vbyte a0), (8, vi (a0.length : Int)), (9, vi ((v1 + 1 : Nat) : Int))] [] ?_
    exact Vs.intro sy ⟨(v1 + 1), rfl, h⟩
  have h := cond_f h c1
  refine TriE.exit ?_
  exact Vs.intro sy ⟨(), rfl, h⟩
theorem restore_list_find_f1_ok (n : Nat) (a0 : Task) (a1 : Str) (r : Unit) (h : restore_list_find_f1 n a0 a1 = some r) : FnL Tryz.prog 171 [.agg [vt a0.Name, vi a0.Cents, vi a0.Hours, eS 1 vt a0.Needs, eS 1 (eS 1 vt) a0.OneOf, eS 2 ePartCount a0.Parts], .ptr 0 0 0] [some (.row 1 [vt a1])] (vb (a0.Name == a1)) [some (.row 1 [vt a1])] := by
  dsimp only [restore_list_find_f1] at h
  refine FnL.ofS (ts := [3]) Tryz.call171 Tryz.func171 rfl rfl (Nat.le_of_ble_eq_true rfl) (Nat.le_of_ble_eq_true rfl) (hall_of (.cons rfl .nil)) ?_
  refine sr [(1, .ptr 0 0 0), (2, .ptr 1 0 0)] [some (.row 1 [vt a1]), some (.row 6 [.agg [vt a0.Name, vi a0.Cents, vi a0.Hours, eS 1 vt a0.Needs, eS 1 (eS 1 vt) a0.OneOf, eS 2 ePartCount a0.Parts]])] ?_
  refine sr [(3, vb (a0.Name == a1))] [some (.row 1 [vt a1]), some (.row 6 [.agg [vt a0.Name, vi a0.Cents, vi a0.Hours, eS 1 vt a0.Needs, eS 1 (eS 1 vt) a0.OneOf, eS 2 ePartCount a0.Parts]])] ?_
  refine TriE.ret ?_
  have h := Option.some.inj h
  subst h
  exact DoneS.ret (S' := ⟨[(3, vb (a0.Name == a1))], [some (.row 1 [vt a1])]⟩) (sc [0] (by decide) (by kernel_rfl) (.cons rfl .nil) rfl rfl) rfl rfl
theorem slices_IndexFunc_Task_ok (n : Nat) (a0 : List Task) (a1 : Str) (r : Int) (h : slices_IndexFunc_Task n a0 a1 = some r) : FnL Tryz.prog 155 [eS 6 eTask a0, .fn (.func 171) [] [.ptr 0 0 0]] [some (.row 1 [vt a1])] (vi r) [some (.row 1 [vt a1])] := by
  dsimp only [slices_IndexFunc_Task] at h
  refine FnL.ofS (ts := [4]) Tryz.call155 Tryz.func155 rfl rfl (Nat.le_of_ble_eq_true rfl) (Nat.le_of_ble_eq_true rfl) (hall_of (.cons rfl .nil)) ?_
  refine sr [(0, eS 6 eTask a0), (1, .fn (.func 171) [] [.ptr 0 0 0])] [some (.row 1 [vt a1])] ?_
  refine TriE.seqK h (fun (_ : Unit) => St.mk [] [some (.row 1 [vt a1])]) ?_ ?_
  · rintro ⟨⟩ h
    refine sr [(4, vi (-1))] [some (.row 1 [vt a1])] ?_
    refine TriE.ret ?_
    have h := Option.some.inj h
    subst h
    exact DoneS.ret (S' := ⟨[(4, vi (-1))], [some (.row 1 [vt a1])]⟩) Sees.refl rfl rfl
  intro k1 h
  refine sj ?_
  refine rn 1 [(0, eS 6 eTask a0), (1, .fn (.func 171) [] [.ptr 0 0 0]), (6, eS 6 eTask a0)] [some (.row 1 [vt a1])] ?_
  refine jv (vi (a0.length : Int)) (cy (I0 7 (.len 0 (.t 6)))) (ok_len_m rfl) rfl ?_
  refine jq 1 [(0, eS 6 eTask a0), (1, .fn (.func 171) [] [.ptr 0 0 0]), (7, vi (a0.length : Int)), (8, vi 0)] [some (.row 1 [vt a1])] ?_
  refine TriE.block ?_
  refine TriE.sees (S' := ⟨[(0, eS 6 eTask a0), (1, .fn (.func 171) [] [.ptr 0 0 0]), (7, vi (a0.length : Int)), (8, vi 0)], [some (.row 1 [vt a1])]⟩) sy ?_
  refine TriE.loopN h (fun (v2 : Nat) => St.mk [(0, eS 6 eTask a0), (1, .fn (.func 171) [] [.ptr 0 0 0]), (7, vi (a0.length : Int)), (8, vi v2)] [some (.row 1 [vt a1])]) rfl ?_
  clear h
  rintro back v2 h
  dsimp only [slices_IndexFunc_Task_L1] at h
  refine sj ?_
  refine jv (vb (decide (v2 < a0.length))) (cy (I0 9 (.bin .lss false (.t 8) (.t 7)))) (n_lss (i := v2) (j := a0.length) rfl rfl) rfl ?_
  refine jp [(0, eS 6 eTask a0), (1, .fn (.func 171) [] [.ptr 0 0 0]), (7, vi (a0.length : Int)), (8, vi v2), (9, vb (decide (v2 < a0.length)))] ?_
  refine TriE.seq ?_
  refine TriE.cond (b := decide (v2 < a0.length)) rfl (fun c1 => ?_) (fun c1 => ?_)
  · have h := cond_t h c1
    refine TriE.skip ?_
    refine TriE.seq ?_
    refine TriE.block ?_
    refine sr [(0, eS 6 eTask a0), (1, .fn (.func 171) [] [.ptr 0 0 0]), (7, vi (a0.length : Int)), (8, vi v2), (5, vi v2)] [some (.row 1 [vt a1])] ?_
    refine sj ?_
    refine rn 3 [(0, eS 6 eTask a0), (1, .fn (.func 171) [] [.ptr 0 0 0]), (7, vi (a0.length : Int)), (8, vi v2), (5, vi v2), (11, .fn (.func 171) [] [.ptr 0 0 0]), (12, eS 6 eTask a0), (13, vi v2)] [some (.row 1 [vt a1])] ?_
    refine jv (.fptr 6 (List.map eTask a0) v2 0) (cy (I0 14 (.iaddr 6 (.t 12) (.t 13)))) (ok_iaddr_m (j := v2) rfl rfl rfl c1) rfl ?_
    refine jv (.agg [vt ((ix a0 v2).Name), vi ((ix a0 v2).Cents), vi ((ix a0 v2).Hours), eS 1 vt ((ix a0 v2).Needs), eS 1 (eS 1 vt) ((ix a0 v2).OneOf), eS 2 ePartCount ((ix a0 v2).Parts)]) (cy (I0 15 (.load true 6 (.t 14)))) (ok_load_fm (v := .agg [vt ((ix a0 v2).Name), vi ((ix a0 v2).Cents), vi ((ix a0 v2).Hours), eS 1 vt ((ix a0 v2).Needs), eS 1 (eS 1 vt) ((ix a0 v2).OneOf), eS 2 ePartCount ((ix a0 v2).Parts)]) rfl c1 rfl) rfl ?_
    obtain ⟨y3, hy3, h⟩ := bind_some h
    refine RegJ.op (Op1.dyn (y' := vb ((ix a0 v2).Name == a1)) (obx := [some (.row 1 [vt a1])]) (oby := [some (.row 1 [vt a1])]) (ob2 := [some (.row 1 [vt a1])]) _ _ _ (cy (I0 16 (.dyn (.t 11) [(.t 15)]))) rfl rfl (restore_list_find_f1_ok n (ix a0 v2) a1 y3 hy3) [0] (by kernel_rfl) (.cons rfl (.cons rfl .nil)) (by kernel_rfl) (by kernel_rfl) (.cons rfl .nil) (by kernel_rfl) (.cons rfl .nil) (by kernel_rfl)) ?_
    refine jp [(0, eS 6 eTask a0), (1, .fn (.func 171) [] [.ptr 0 0 0]), (7, vi (a0.length : Int)), (8, vi v2), (5, vi v2), (16, vb ((ix a0 v2).Name == a1))] ?_
    refine TriE.cond (b := ((ix a0 v2).Name == a1)) rfl (fun c2 => ?_) (fun c2 => ?_)
    · have h := cond_t h c2
      refine sr [(4, vi v2)] [some (.row 1 [vt a1])] ?_
      refine TriE.ret ?_
      have h := Option.some.inj h
      subst h
      exact DoneS.ret (S' := ⟨[(4, vi v2)], [some (.row 1 [vt a1])]⟩) Sees.refl rfl rfl
    have h := cond_f h c2
    refine TriE.skip ?_
    refine TriE.regJ ?_
    obtain ⟨c3, h⟩ := chk_some h
    refine jv (vi ((v2 + 1 : Nat) : Int)) (cy (I0 18 (.bin .add false (.t 8) (.c (.p (.int .i64 1)))))) (r_addn (i := v2) (j := 1) rfl rfl c3) rfl ?_
    refine jq 1 [(0, eS 6 eTask a0), (1, .fn (.func 171) [] [.ptr 0 0 0]), (7, vi (a0.length : Int)), (8, vi ((v2 + 1 : Nat) : Int))] [some (.row 1 [vt a1])] ?_
    exact Vs.intro sy ⟨(v2 + 1), rfl, h⟩
  have h := cond_f h c1
  refine TriE.exit ?_
  exact Vs.intro sy ⟨(), rfl, h⟩
theorem restore_list_find_ok (n : Nat) (a0 : List Task) (a1 : Str) (r : Int) (h : restore_list_find n a0 a1 = some r) : FnL Tryz.prog 117 [eS 6 eTask a0, vt a1] [] (vi r) [] := by
  dsimp only [restore_list_find] at h
  refine FnL.ofS (ts := [4]) Tryz.call117 Tryz.func117 rfl rfl (Nat.le_of_ble_eq_true rfl) (Nat.le_of_ble_eq_true rfl) (fun j h => absurd h (Nat.not_lt_zero j)) ?_
  refine sr [(0, eS 6 eTask a0), (3, .ptr 0 0 0)] [some (.row 1 [vt a1])] ?_
  refine sj ?_
  refine rn 2 [(5, eS 6 eTask a0), (6, .fn (.func 171) [] [.ptr 0 0 0])] [some (.row 1 [vt a1])] ?_
  obtain ⟨y1, hy1, h⟩ := bind_some h
  refine RegJ.op (Op1.call (y' := vi y1) (obx := [some (.row 1 [vt a1])]) (oby := [some (.row 1 [vt a1])]) (ob2 := [some (.row 1 [vt a1])]) _ _ (cy (I0 7 (.call 155 [(.t 5), (.t 6)]))) rfl (slices_IndexFunc_Task_ok n a0 a1 y1 hy1) [0] (by kernel_rfl) (.cons rfl (.cons rfl (.cons rfl .nil))) (by kernel_rfl) (by kernel_rfl) (.cons rfl .nil) (by kernel_rfl) (.cons rfl .nil) (by kernel_rfl)) ?_
  refine jq 1 [(4, vi y1)] [some (.row 1 [vt a1])] ?_
  refine TriE.ret ?_
  have h := Option.some.inj h
  subst h
  exact DoneS.ret (S' := ⟨[(4, vi y1)], []⟩) (sc [] (by decide) (by kernel_rfl) ObRen.nil rfl rfl) rfl rfl
theorem restore_within_ok (n : Nat) (a0 : Int) (a1 : Int) (a2 : Int) (r : Unit) (h : restore_within n a0 a1 a2 = some r) : FnL Tryz.prog 91 [vi a0, vi a1, vi a2] [] (vb ((decide (a1 ≤ a0)) && (decide (a0 ≤ a2)))) [] := by
  dsimp only [restore_within] at h
  refine FnL.ofS (ts := [6]) Tryz.call91 Tryz.func91 rfl rfl (Nat.le_of_ble_eq_true rfl) (Nat.le_of_ble_eq_true rfl) (fun j h => absurd h (Nat.not_lt_zero j)) ?_
  refine sr [(0, vi a0), (1, vi a1), (2, vi a2)] [] ?_
  refine sj ?_
  refine rn 4 [(0, vi a0), (2, vi a2), (10, vb (decide (a1 ≤ a0)))] [] ?_
  refine RegJ.op (Op1.valk (v := vi a0) _ _ (cy (IG 11 (.mov (.t 0)) 10 true)) rfl (by kernel_rfl) (fun hg => (.cons rfl .nil))) ?_
  refine RegJ.op (Op1.valk (v := vi a2) _ _ (cy (IG 12 (.mov (.t 2)) 10 true)) rfl (by kernel_rfl) (fun hg => (.cons rfl .nil))) ?_
  refine RegJ.op (Op1.valk (v := vb (decide (a0 ≤ a2))) _ _ (cy (IG 13 (.bin .leq false (.t 11) (.t 12)) 10 true)) rfl (by kernel_rfl) (fun hg => (.cons hg (.cons hg .nil)))) ?_
  refine RegJ.op (Op1.and (cy (I0 14 (.pick (.t 10) (.t 13) (.c (.p (.bool false)))))) rfl rfl (by first | exact hokA1 | exact hokA0 | simp)) ?_
  refine jq 1 [(6, vb ((decide (a1 ≤ a0)) && (decide (a0 ≤ a2))))] [] ?_
  refine TriE.ret ?_
  have h := Option.some.inj h
  subst h
  exact DoneS.ret (S' := ⟨[(6, vb ((decide (a1 ≤ a0)) && (decide (a0 ≤ a2))))], []⟩) Sees.refl rfl rfl
theorem restore_list_checkTask_f1_ok (n : Nat) (a0 : List Str) (r : Unit) (h : restore_list_checkTask_f1 n a0 = some r) : FnL Tryz.prog 152 [eS 1 vt a0] [] (vb (decide (6 < a0.length))) [] := by
  dsimp only [restore_list_checkTask_f1] at h
  refine FnL.ofS (ts := [2]) Tryz.call152 Tryz.func152 rfl rfl (Nat.le_of_ble_eq_true rfl) (Nat.le_of_ble_eq_true rfl) (fun j h => absurd h (Nat.not_lt_zero j)) ?_
  refine sr [(0, eS 1 vt a0)] [] ?_
  refine sj ?_
  refine rn 1 [(3, eS 1 vt a0)] [] ?_
  refine jv (vi (a0.length : Int)) (cy (I0 4 (.len 0 (.t 3)))) (ok_len_m rfl) rfl ?_
  refine jv (vb (decide (6 < a0.length))) (cy (I0 5 (.bin .gtr false (.t 4) (.c (.p (.int .i64 6)))))) (n_gtr (i := a0.length) (j := 6) rfl rfl) rfl ?_
  refine jq 1 [(2, vb (decide (6 < a0.length)))] [] ?_
  refine TriE.ret ?_
  have h := Option.some.inj h
  subst h
  exact DoneS.ret (S' := ⟨[(2, vb (decide (6 < a0.length)))], []⟩) Sees.refl rfl rfl
theorem slices_IndexFunc_string_ok (n : Nat) (a0 : List (List Str)) (r : Int) (h : slices_IndexFunc_string n a0 = some r) : FnL Tryz.prog 172 [eS 1 (eS 1 vt) a0, .fn (.func 152) [] []] [] (vi r) [] := by
  dsimp only [slices_IndexFunc_string] at h
  refine FnL.ofS (ts := [4]) Tryz.call172 Tryz.func172 rfl rfl (Nat.le_of_ble_eq_true rfl) (Nat.le_of_ble_eq_true rfl) (fun j h => absurd h (Nat.not_lt_zero j)) ?_
  refine sr [(0, eS 1 (eS 1 vt) a0), (1, .fn (.func 152) [] [])] [] ?_
  refine TriE.seqK h (fun (_ : Unit) => St.mk [] []) ?_ ?_
  · rintro ⟨⟩ h
    refine sr [(4, vi (-1))] [] ?_
    refine TriE.ret ?_
    have h := Option.some.inj h
    subst h
    exact DoneS.ret (S' := ⟨[(4, vi (-1))], []⟩) Sees.refl rfl rfl
  intro k1 h
  refine sj ?_
  refine rn 1 [(0, eS 1 (eS 1 vt) a0), (1, .fn (.func 152) [] []), (6, eS 1 (eS 1 vt) a0)] [] ?_
  refine jv (vi (a0.length : Int)) (cy (I0 7 (.len 0 (.t 6)))) (ok_len_m rfl) rfl ?_
  refine jq 1 [(0, eS 1 (eS 1 vt) a0), (1, .fn (.func 152) [] []), (7, vi (a0.length : Int)), (8, vi 0)] [] ?_
  refine TriE.block ?_
  refine TriE.sees (S' := ⟨[(0, eS 1 (eS 1 vt) a0), (1, .fn (.func 152) [] []), (7, vi (a0.length : Int)), (8, vi 0)], []⟩) sy ?_
  refine TriE.loopN h (fun (v2 : Nat) => St.mk [(0, eS 1 (eS 1 vt) a0), (1, .fn (.func 152) [] []), (7, vi (a0.length : Int)), (8, vi v2)] []) rfl ?_
  clear h
  rintro back v2 h
  dsimp only [slices_IndexFunc_string_L1] at h
  refine sj ?_
  refine jv (vb (decide (v2 < a0.length))) (cy (I0 9 (.bin .lss false (.t 8) (.t 7)))) (n_lss (i := v2) (j := a0.length) rfl rfl) rfl ?_
  refine jp [(0, eS 1 (eS 1 vt) a0), (1, .fn (.func 152) [] []), (7, vi (a0.length : Int)), (8, vi v2), (9, vb (decide (v2 < a0.length)))] ?_
  refine TriE.seq ?_
  refine TriE.cond (b := decide (v2 < a0.length)) rfl (fun c1 => ?_) (fun c1 => ?_)
  · have h := cond_t h c1
    refine TriE.skip ?_
    refine TriE.seq ?_
    refine TriE.block ?_
    refine sr [(0, eS 1 (eS 1 vt) a0), (1, .fn (.func 152) [] []), (7, vi (a0.length : Int)), (8, vi v2), (5, vi v2)] [] ?_
    refine sj ?_
    refine rn 3 [(0, eS 1 (eS 1 vt) a0), (1, .fn (.func 152) [] []), (7, vi (a0.length : Int)), (8, vi v2), (5, vi v2), (11, .fn (.func 152) [] []), (12, eS 1 (eS 1 vt) a0), (13, vi v2)] [] ?_
    refine jv (.fptr 1 (List.map (eS 1 vt) a0) v2 0) (cy (I0 14 (.iaddr 1 (.t 12) (.t 13)))) (ok_iaddr_m (j := v2) rfl rfl rfl c1) rfl ?_
    refine jv (eS 1 vt (ix a0 v2)) (cy (I0 15 (.load false 1 (.t 14)))) (ok_load_fm (v := eS 1 vt (ix a0 v2)) rfl c1 rfl) rfl ?_
    obtain ⟨y3, hy3, h⟩ := bind_some h
    refine RegJ.op (Op1.dyn (y' := vb (decide (6 < (ix a0 v2).length))) (obx := []) (oby := []) (ob2 := []) _ _ _ (cy (I0 16 (.dyn (.t 11) [(.t 15)]))) rfl rfl (restore_list_checkTask_f1_ok n (ix a0 v2) y3 hy3) [] (by kernel_rfl) (.cons rfl (.cons rfl .nil)) (by kernel_rfl) (by kernel_rfl) ObsRen.nil (by kernel_rfl) ObsRen.nil (by kernel_rfl)) ?_
    refine jp [(0, eS 1 (eS 1 vt) a0), (1, .fn (.func 152) [] []), (7, vi (a0.length : Int)), (8, vi v2), (5, vi v2), (16, vb (decide (6 < (ix a0 v2).length)))] ?_
    refine TriE.cond (b := decide (6 < (ix a0 v2).length)) rfl (fun c2 => ?_) (fun c2 => ?_)
    · have h := cond_t h c2
      refine sr [(4, vi v2)] [] ?_
      refine TriE.ret ?_
      have h := Option.some.inj h
      subst h
      exact DoneS.ret (S' := ⟨[(4, vi v2)], []⟩) Sees.refl rfl rfl
    have h := cond_f h c2
    refine TriE.skip ?_
    refine TriE.regJ ?_
    obtain ⟨c3, h⟩ := chk_some h
    refine jv (vi ((v2 + 1 : Nat) : Int)) (cy (I0 18 (.bin .add false (.t 8) (.c (.p (.int .i64 1)))))) (r_addn (i := v2) (j := 1) rfl rfl c3) rfl ?_
    refine jq 1 [(0, eS 1 (eS 1 vt) a0), (1, .fn (.func 152) [] []), (7, vi (a0.length : Int)), (8, vi ((v2 + 1 : Nat) : Int))] [] ?_
    exact Vs.intro sy ⟨(v2 + 1), rfl, h⟩
  have h := cond_f h c1
  refine TriE.exit ?_
  exact Vs.intro sy ⟨(), rfl, h⟩
theorem slices_ContainsFunc_string_ok (n : Nat) (a0 : List (List Str)) (r : Bool) (h : slices_ContainsFunc_string n a0 = some r) : FnL Tryz.prog 118 [eS 1 (eS 1 vt) a0, .fn (.func 152) [] []] [] (vb r) [] := by
  dsimp only [slices_ContainsFunc_string] at h
  refine FnL.ofS (ts := [4]) Tryz.call118 Tryz.func118 rfl rfl (Nat.le_of_ble_eq_true rfl) (Nat.le_of_ble_eq_true rfl) (fun j h => absurd h (Nat.not_lt_zero j)) ?_
  refine sr [(0, eS 1 (eS 1 vt) a0), (1, .fn (.func 152) [] [])] [] ?_
  refine sj ?_
  refine rn 2 [(5, eS 1 (eS 1 vt) a0), (6, .fn (.func 152) [] [])] [] ?_
  obtain ⟨y1, hy1, h⟩ := bind_some h
  refine RegJ.op (Op1.call (y' := vi y1) (obx := []) (oby := []) (ob2 := []) _ _ (cy (I0 7 (.call 172 [(.t 5), (.t 6)]))) rfl (slices_IndexFunc_string_ok n a0 y1 hy1) [] (by kernel_rfl) (.cons rfl (.cons rfl (.cons rfl .nil))) (by kernel_rfl) (by kernel_rfl) ObsRen.nil (by kernel_rfl) ObsRen.nil (by kernel_rfl)) ?_
  refine jq 2 [(4, vb (decide ((0 : Int) ≤ y1)))] [] ?_
  refine TriE.ret ?_
  have h := Option.some.inj h
  subst h
  exact DoneS.ret (S' := ⟨[(4, vb (decide ((0 : Int) ≤ y1)))], []⟩) Sees.refl rfl rfl
theorem slices_Index_string_ok (n : Nat) (a0 : List Str) (a1 : Str) (r : Int) (h : slices_Index_string n a0 a1 = some r) : FnL Tryz.prog 189 [eS 1 vt a0, vt a1] [] (vi r) [] := by
  dsimp only [slices_Index_string] at h
  refine FnL.ofS (ts := [4]) Tryz.call189 Tryz.func189 rfl rfl (Nat.le_of_ble_eq_true rfl) (Nat.le_of_ble_eq_true rfl) (fun j h => absurd h (Nat.not_lt_zero j)) ?_
  refine sr [(0, eS 1 vt a0), (1, vt a1)] [] ?_
  refine TriE.seqK h (fun (_ : Unit) => St.mk [] []) ?_ ?_
  · rintro ⟨⟩ h
    refine sr [(4, vi (-1))] [] ?_
    refine TriE.ret ?_
    have h := Option.some.inj h
    subst h
    exact DoneS.ret (S' := ⟨[(4, vi (-1))], []⟩) Sees.refl rfl rfl
  intro k1 h
  refine sj ?_
  refine rn 1 [(0, eS 1 vt a0), (1, vt a1), (6, eS 1 vt a0)] [] ?_
  refine jv (vi (a0.length : Int)) (cy (I0 7 (.len 0 (.t 6)))) (ok_len_m rfl) rfl ?_
  refine jq 1 [(0, eS 1 vt a0), (1, vt a1), (7, vi (a0.length : Int)), (8, vi 0)] [] ?_
  refine TriE.block ?_
  refine TriE.sees (S' := ⟨[(0, eS 1 vt a0), (1, vt a1), (7, vi (a0.length : Int)), (8, vi 0)], []⟩) sy ?_
  refine TriE.loopN h (fun (v1 : Nat) => St.mk [(0, eS 1 vt a0), (1, vt a1), (7, vi (a0.length : Int)), (8, vi v1)] []) rfl ?_
  clear h
  rintro back v1 h
  dsimp only [slices_Index_string_L1] at h
  refine sj ?_
  refine jv (vb (decide (v1 < a0.length))) (cy (I0 9 (.bin .lss false (.t 8) (.t 7)))) (n_lss (i := v1) (j := a0.length) rfl rfl) rfl ?_
  refine jp [(0, eS 1 vt a0), (1, vt a1), (7, vi (a0.length : Int)), (8, vi v1), (9, vb (decide (v1 < a0.length)))] ?_
  refine TriE.seq ?_
  refine TriE.cond (b := decide (v1 < a0.length)) rfl (fun c1 => ?_) (fun c1 => ?_)
  · have h := cond_t h c1
    refine TriE.skip ?_
    refine TriE.seq ?_
    refine TriE.block ?_
    refine sr [(0, eS 1 vt a0), (1, vt a1), (7, vi (a0.length : Int)), (8, vi v1), (5, vi v1)] [] ?_
    refine sj ?_
    refine rn 3 [(0, eS 1 vt a0), (1, vt a1), (7, vi (a0.length : Int)), (8, vi v1), (5, vi v1), (11, vt a1), (12, eS 1 vt a0), (13, vi v1)] [] ?_
    refine jv (.fptr 1 (List.map vt a0) v1 0) (cy (I0 14 (.iaddr 1 (.t 12) (.t 13)))) (ok_iaddr_m (j := v1) rfl rfl rfl c1) rfl ?_
    refine jv (vt (ix a0 v1)) (cy (I0 15 (.load false 1 (.t 14)))) (ok_load_fm (v := vt (ix a0 v1)) rfl c1 rfl) rfl ?_
    refine jq 1 [(0, eS 1 vt a0), (1, vt a1), (7, vi (a0.length : Int)), (8, vi v1), (5, vi v1), (16, vb (a1 == (ix a0 v1)))] [] ?_
    refine TriE.cond (b := (a1 == (ix a0 v1))) rfl (fun c2 => ?_) (fun c2 => ?_)
    · have h := cond_t h c2
      refine sr [(4, vi v1)] [] ?_
      refine TriE.ret ?_
      have h := Option.some.inj h
      subst h
      exact DoneS.ret (S' := ⟨[(4, vi v1)], []⟩) Sees.refl rfl rfl
    have h := cond_f h c2
    refine TriE.skip ?_
    refine TriE.regJ ?_
    obtain ⟨c3, h⟩ := chk_some h
    refine jv (vi ((v1 + 1 : Nat) : Int)) (cy (I0 18 (.bin .add false (.t 8) (.c (.p (.int .i64 1)))))) (r_addn (i := v1) (j := 1) rfl rfl c3) rfl ?_
    refine jq 1 [(0, eS 1 vt a0), (1, vt a1), (7, vi (a0.length : Int)), (8, vi ((v1 + 1 : Nat) : Int))] [] ?_
    exact Vs.intro sy ⟨(v1 + 1), rfl, h⟩
  have h := cond_f h c1
  refine TriE.exit ?_
  exact Vs.intro sy ⟨(), rfl, h⟩
theorem slices_Contains_string_ok (n : Nat) (a0 : List Str) (a1 : Str) (r : Bool) (h : slices_Contains_string n a0 a1 = some r) : FnL Tryz.prog 154 [eS 1 vt a0, vt a1] [] (vb r) [] := by
  dsimp only [slices_Contains_string] at h
  refine FnL.ofS (ts := [4]) Tryz.call154 Tryz.func154 rfl rfl (Nat.le_of_ble_eq_true rfl) (Nat.le_of_ble_eq_true rfl) (fun j h => absurd h (Nat.not_lt_zero j)) ?_
  refine sr [(0, eS 1 vt a0), (1, vt a1)] [] ?_
  refine sj ?_
  refine rn 2 [(5, eS 1 vt a0), (6, vt a1)] [] ?_
  obtain ⟨y1, hy1, h⟩ := bind_some h
  refine RegJ.op (Op1.call (y' := vi y1) (obx := []) (oby := []) (ob2 := []) _ _ (cy (I0 7 (.call 189 [(.t 5), (.t 6)]))) rfl (slices_Index_string_ok n a0 a1 y1 hy1) [] (by kernel_rfl) (.cons rfl (.cons rfl (.cons rfl .nil))) (by kernel_rfl) (by kernel_rfl) ObsRen.nil (by kernel_rfl) ObsRen.nil (by kernel_rfl)) ?_
  refine jq 2 [(4, vb (decide ((0 : Int) ≤ y1)))] [] ?_
  refine TriE.ret ?_
  have h := Option.some.inj h
  subst h
  exact DoneS.ret (S' := ⟨[(4, vb (decide ((0 : Int) ≤ y1)))], []⟩) Sees.refl rfl rfl
theorem restore_list_known_ok (n : Nat) (a0 : List Task) (a1 : List Str) (r : Int) (h : restore_list_known n a0 a1 = some r) : FnL Tryz.prog 96 [eS 6 eTask a0, eS 1 vt a1] [] (vi r) [] := by
  dsimp only [restore_list_known] at h
  refine FnL.ofS (ts := [4]) Tryz.call96 Tryz.func96 rfl rfl (Nat.le_of_ble_eq_true rfl) (Nat.le_of_ble_eq_true rfl) (fun j h => absurd h (Nat.not_lt_zero j)) ?_
  refine sr [(0, eS 6 eTask a0), (1, eS 1 vt a1)] [] ?_
  refine TriE.seqK h (fun (_ : Unit) => St.mk [] []) ?_ ?_
  · rintro ⟨⟩ h
    refine sr [(4, vi 0)] [] ?_
    refine TriE.ret ?_
    have h := Option.some.inj h
    subst h
    exact DoneS.ret (S' := ⟨[(4, vi 0)], []⟩) Sees.refl rfl rfl
  intro k1 h
  refine sj ?_
  refine rn 1 [(0, eS 6 eTask a0), (1, eS 1 vt a1), (7, eS 1 vt a1)] [] ?_
  refine jv (vi (a1.length : Int)) (cy (I0 8 (.len 0 (.t 7)))) (ok_len_m rfl) rfl ?_
  refine jq 1 [(0, eS 6 eTask a0), (1, eS 1 vt a1), (7, eS 1 vt a1), (8, vi (a1.length : Int)), (9, vi 0)] [] ?_
  refine TriE.block ?_
  refine TriE.sees (S' := ⟨[(0, eS 6 eTask a0), (1, eS 1 vt a1), (7, eS 1 vt a1), (8, vi (a1.length : Int)), (9, vi 0)], []⟩) sy ?_
  refine TriE.loopN h (fun (v3 : Nat) => St.mk [(0, eS 6 eTask a0), (1, eS 1 vt a1), (7, eS 1 vt a1), (8, vi (a1.length : Int)), (9, vi v3)] []) rfl ?_
  clear h
  rintro back v3 h
  dsimp only [restore_list_known_L1] at h
  refine sj ?_
  refine jv (vb (decide (v3 < a1.length))) (cy (I0 10 (.bin .lss false (.t 9) (.t 8)))) (n_lss (i := v3) (j := a1.length) rfl rfl) rfl ?_
  refine jp [(0, eS 6 eTask a0), (1, eS 1 vt a1), (7, eS 1 vt a1), (8, vi (a1.length : Int)), (9, vi v3), (10, vb (decide (v3 < a1.length)))] ?_
  refine TriE.seq ?_
  refine TriE.cond (b := decide (v3 < a1.length)) rfl (fun c1 => ?_) (fun c1 => ?_)
  · have h := cond_t h c1
    refine TriE.skip ?_
    refine TriE.seq ?_
    refine TriE.block ?_
    refine sj ?_
    refine rn 1 [(0, eS 6 eTask a0), (1, eS 1 vt a1), (7, eS 1 vt a1), (8, vi (a1.length : Int)), (9, vi v3), (11, vi v3)] [] ?_
    refine jv (.fptr 1 (List.map vt a1) v3 0) (cy (I0 12 (.iaddr 1 (.t 7) (.t 9)))) (ok_iaddr_m (j := v3) rfl rfl rfl c1) rfl ?_
    refine jv (vt (ix a1 v3)) (cy (I0 13 (.load false 1 (.t 12)))) (ok_load_fm (v := vt (ix a1 v3)) rfl c1 rfl) rfl ?_
    refine jq 2 [(0, eS 6 eTask a0), (1, eS 1 vt a1), (7, eS 1 vt a1), (8, vi (a1.length : Int)), (9, vi v3), (5, vi v3), (6, vt (ix a1 v3))] [] ?_
    refine TriE.block ?_
    refine sj ?_
    refine rn 2 [(0, eS 6 eTask a0), (1, eS 1 vt a1), (7, eS 1 vt a1), (8, vi (a1.length : Int)), (9, vi v3), (5, vi v3), (6, vt (ix a1 v3)), (15, eS 6 eTask a0), (16, vt (ix a1 v3))] [] ?_
    obtain ⟨y4, hy4, h⟩ := bind_some h
    refine RegJ.op (Op1.call (y' := vi y4) (obx := []) (oby := []) (ob2 := []) _ _ (cy (I0 17 (.call 117 [(.t 15), (.t 16)]))) rfl (restore_list_find_ok n a0 (ix a1 v3) y4 hy4) [] (by kernel_rfl) (.cons rfl (.cons rfl (.cons rfl .nil))) (by kernel_rfl) (by kernel_rfl) ObsRen.nil (by kernel_rfl) ObsRen.nil (by kernel_rfl)) ?_
    refine jq 2 [(0, eS 6 eTask a0), (1, eS 1 vt a1), (7, eS 1 vt a1), (8, vi (a1.length : Int)), (9, vi v3), (5, vi v3), (6, vt (ix a1 v3)), (14, vb (decide (y4 < (0 : Int))))] [] ?_
    refine TriE.cond (b := decide (y4 < (0 : Int))) rfl (fun c2 => ?_) (fun c2 => ?_)
    · have h := cond_t h c2
      refine sr [(4, vi 6)] [] ?_
      refine TriE.ret ?_
      have h := Option.some.inj h
      subst h
      exact DoneS.ret (S' := ⟨[(4, vi 6)], []⟩) Sees.refl rfl rfl
    have h := cond_f h c2
    refine sj ?_
    refine rn 2 [(0, eS 6 eTask a0), (1, eS 1 vt a1), (7, eS 1 vt a1), (8, vi (a1.length : Int)), (9, vi v3), (6, vt (ix a1 v3)), (20, eS 1 vt a1), (21, vi v3)] [] ?_
    obtain ⟨c3, h⟩ := chk_some h
    refine jv (eS 1 vt (List.take v3 a1)) (cy (I0 22 (.slc 1 (.t 20) none (some (.t 21)) none))) (ok_slc_hi (j := v3) rfl rfl rfl c3) rfl ?_
    refine rn 1 [(0, eS 6 eTask a0), (1, eS 1 vt a1), (7, eS 1 vt a1), (8, vi (a1.length : Int)), (9, vi v3), (22, eS 1 vt (List.take v3 a1)), (23, vt (ix a1 v3))] [] ?_
    obtain ⟨y5, hy5, h⟩ := bind_some h
    refine RegJ.op (Op1.call (y' := vb y5) (obx := []) (oby := []) (ob2 := []) _ _ (cy (I0 24 (.call 154 [(.t 22), (.t 23)]))) rfl (slices_Contains_string_ok n (List.take v3 a1) (ix a1 v3) y5 hy5) [] (by kernel_rfl) (.cons rfl (.cons rfl (.cons rfl .nil))) (by kernel_rfl) (by kernel_rfl) ObsRen.nil (by kernel_rfl) ObsRen.nil (by kernel_rfl)) ?_
    refine jq 1 [(0, eS 6 eTask a0), (1, eS 1 vt a1), (7, eS 1 vt a1), (8, vi (a1.length : Int)), (9, vi v3), (19, vb y5)] [] ?_
    refine TriE.cond (b := y5) rfl (fun c4 => ?_) (fun c4 => ?_)
    · have h := cond_t h c4
      refine sr [(4, vi 5)] [] ?_
      refine TriE.ret ?_
      have h := Option.some.inj h
      subst h
      exact DoneS.ret (S' := ⟨[(4, vi 5)], []⟩) Sees.refl rfl rfl
    have h := cond_f h c4
    refine TriE.skip ?_
    refine TriE.regJ ?_
    obtain ⟨c5, h⟩ := chk_some h
    refine jv (vi ((v3 + 1 : Nat) : Int)) (cy (I0 25 (.bin .add false (.t 9) (.c (.p (.int .i64 1)))))) (r_addn (i := v3) (j := 1) rfl rfl c5) rfl ?_
    refine jq 1 [(0, eS 6 eTask a0), (1, eS 1 vt a1), (7, eS 1 vt a1), (8, vi (a1.length : Int)), (9, vi ((v3 + 1 : Nat) : Int))] [] ?_
    exact Vs.intro sy ⟨(v3 + 1), rfl, h⟩
  have h := cond_f h c1
  refine TriE.exit ?_
  exact Vs.intro sy ⟨(), rfl, h⟩
theorem restore_checkCounts_f1_ok (n : Nat) (a0 : PartCount) (a1 : Str) (a2 : Int) (r : Unit) (h : restore_checkCounts_f1 n a0 a1 a2 = some r) : FnL Tryz.prog 168 [.agg [vt a0.Part, vi a0.Count], .ptr 0 0 0] [some (.row 2 [.agg [vt a1, vi a2]])] (vb (a0.Part == a1)) [some (.row 2 [.agg [vt a1, vi a2]])] := by
  dsimp only [restore_checkCounts_f1] at h
  refine FnL.ofS (ts := [3]) Tryz.call168 Tryz.func168 rfl rfl (Nat.le_of_ble_eq_true rfl) (Nat.le_of_ble_eq_true rfl) (hall_of (.cons rfl .nil)) ?_
  refine sr [(1, .ptr 0 0 0), (2, .ptr 1 0 0)] [some (.row 2 [.agg [vt a1, vi a2]]), some (.row 2 [.agg [vt a0.Part, vi a0.Count]])] ?_
  refine sr [(3, vb (a0.Part == a1))] [some (.row 2 [.agg [vt a1, vi a2]]), some (.row 2 [.agg [vt a0.Part, vi a0.Count]])] ?_
  refine TriE.ret ?_
  have h := Option.some.inj h
  subst h
  exact DoneS.ret (S' := ⟨[(3, vb (a0.Part == a1))], [some (.row 2 [.agg [vt a1, vi a2]])]⟩) (sc [0] (by decide) (by kernel_rfl) (.cons rfl .nil) rfl rfl) rfl rfl
theorem slices_IndexFunc_PartCount_ok (n : Nat) (a0 : List PartCount) (a1 : Str) (a2 : Int) (r : Int) (h : slices_IndexFunc_PartCount n a0 a1 a2 = some r) : FnL Tryz.prog 201 [eS 2 ePartCount a0, .fn (.func 168) [] [.ptr 0 0 0]] [some (.row 2 [.agg [vt a1, vi a2]])] (vi r) [some (.row 2 [.agg [vt a1, vi a2]])] := by
  dsimp only [slices_IndexFunc_PartCount] at h
  refine FnL.ofS (ts := [4]) Tryz.call201 Tryz.func201 rfl rfl (Nat.le_of_ble_eq_true rfl) (Nat.le_of_ble_eq_true rfl) (hall_of (.cons rfl .nil)) ?_
  refine sr [(0, eS 2 ePartCount a0), (1, .fn (.func 168) [] [.ptr 0 0 0])] [some (.row 2 [.agg [vt a1, vi a2]])] ?_
  refine TriE.seqK h (fun (_ : Unit) => St.mk [] [some (.row 2 [.agg [vt a1, vi a2]])]) ?_ ?_
  · rintro ⟨⟩ h
    refine sr [(4, vi (-1))] [some (.row 2 [.agg [vt a1, vi a2]])] ?_
    refine TriE.ret ?_
    have h := Option.some.inj h
    subst h
    exact DoneS.ret (S' := ⟨[(4, vi (-1))], [some (.row 2 [.agg [vt a1, vi a2]])]⟩) Sees.refl rfl rfl
  intro k1 h
  refine sj ?_
  refine rn 1 [(0, eS 2 ePartCount a0), (1, .fn (.func 168) [] [.ptr 0 0 0]), (6, eS 2 ePartCount a0)] [some (.row 2 [.agg [vt a1, vi a2]])] ?_
  refine jv (vi (a0.length : Int)) (cy (I0 7 (.len 0 (.t 6)))) (ok_len_m rfl) rfl ?_
  refine jq 1 [(0, eS 2 ePartCount a0), (1, .fn (.func 168) [] [.ptr 0 0 0]), (7, vi (a0.length : Int)), (8, vi 0)] [some (.row 2 [.agg [vt a1, vi a2]])] ?_
  refine TriE.block ?_
  refine TriE.sees (S' := ⟨[(0, eS 2 ePartCount a0), (1, .fn (.func 168) [] [.ptr 0 0 0]), (7, vi (a0.length : Int)), (8, vi 0)], [some (.row 2 [.agg [vt a1, vi a2]])]⟩) sy ?_
  refine TriE.loopN h (fun (v2 : Nat) => St.mk [(0, eS 2 ePartCount a0), (1, .fn (.func 168) [] [.ptr 0 0 0]), (7, vi (a0.length : Int)), (8, vi v2)] [some (.row 2 [.agg [vt a1, vi a2]])]) rfl ?_
  clear h
  rintro back v2 h
  dsimp only [slices_IndexFunc_PartCount_L1] at h
  refine sj ?_
  refine jv (vb (decide (v2 < a0.length))) (cy (I0 9 (.bin .lss false (.t 8) (.t 7)))) (n_lss (i := v2) (j := a0.length) rfl rfl) rfl ?_
  refine jp [(0, eS 2 ePartCount a0), (1, .fn (.func 168) [] [.ptr 0 0 0]), (7, vi (a0.length : Int)), (8, vi v2), (9, vb (decide (v2 < a0.length)))] ?_
  refine TriE.seq ?_
  refine TriE.cond (b := decide (v2 < a0.length)) rfl (fun c1 => ?_) (fun c1 => ?_)
  · have h := cond_t h c1
    refine TriE.skip ?_
    refine TriE.seq ?_
    refine TriE.block ?_
    refine sr [(0, eS 2 ePartCount a0), (1, .fn (.func 168) [] [.ptr 0 0 0]), (7, vi (a0.length : Int)), (8, vi v2), (5, vi v2)] [some (.row 2 [.agg [vt a1, vi a2]])] ?_
    refine sj ?_
    refine rn 3 [(0, eS 2 ePartCount a0), (1, .fn (.func 168) [] [.ptr 0 0 0]), (7, vi (a0.length : Int)), (8, vi v2), (5, vi v2), (11, .fn (.func 168) [] [.ptr 0 0 0]), (12, eS 2 ePartCount a0), (13, vi v2)] [some (.row 2 [.agg [vt a1, vi a2]])] ?_
    refine jv (.fptr 2 (List.map ePartCount a0) v2 0) (cy (I0 14 (.iaddr 2 (.t 12) (.t 13)))) (ok_iaddr_m (j := v2) rfl rfl rfl c1) rfl ?_
    refine jv (.agg [vt ((ix a0 v2).Part), vi ((ix a0 v2).Count)]) (cy (I0 15 (.load true 2 (.t 14)))) (ok_load_fm (v := .agg [vt ((ix a0 v2).Part), vi ((ix a0 v2).Count)]) rfl c1 rfl) rfl ?_
    obtain ⟨y3, hy3, h⟩ := bind_some h
    refine RegJ.op (Op1.dyn (y' := vb ((ix a0 v2).Part == a1)) (obx := [some (.row 2 [.agg [vt a1, vi a2]])]) (oby := [some (.row 2 [.agg [vt a1, vi a2]])]) (ob2 := [some (.row 2 [.agg [vt a1, vi a2]])]) _ _ _ (cy (I0 16 (.dyn (.t 11) [(.t 15)]))) rfl rfl (restore_checkCounts_f1_ok n (ix a0 v2) a1 a2 y3 hy3) [0] (by kernel_rfl) (.cons rfl (.cons rfl .nil)) (by kernel_rfl) (by kernel_rfl) (.cons rfl .nil) (by kernel_rfl) (.cons rfl .nil) (by kernel_rfl)) ?_
    refine jp [(0, eS 2 ePartCount a0), (1, .fn (.func 168) [] [.ptr 0 0 0]), (7, vi (a0.length : Int)), (8, vi v2), (5, vi v2), (16, vb ((ix a0 v2).Part == a1))] ?_
    refine TriE.cond (b := ((ix a0 v2).Part == a1)) rfl (fun c2 => ?_) (fun c2 => ?_)
    · have h := cond_t h c2
      refine sr [(4, vi v2)] [some (.row 2 [.agg [vt a1, vi a2]])] ?_
      refine TriE.ret ?_
      have h := Option.some.inj h
      subst h
      exact DoneS.ret (S' := ⟨[(4, vi v2)], [some (.row 2 [.agg [vt a1, vi a2]])]⟩) Sees.refl rfl rfl
    have h := cond_f h c2
    refine TriE.skip ?_
    refine TriE.regJ ?_
    obtain ⟨c3, h⟩ := chk_some h
    refine jv (vi ((v2 + 1 : Nat) : Int)) (cy (I0 18 (.bin .add false (.t 8) (.c (.p (.int .i64 1)))))) (r_addn (i := v2) (j := 1) rfl rfl c3) rfl ?_
    refine jq 1 [(0, eS 2 ePartCount a0), (1, .fn (.func 168) [] [.ptr 0 0 0]), (7, vi (a0.length : Int)), (8, vi ((v2 + 1 : Nat) : Int))] [some (.row 2 [.agg [vt a1, vi a2]])] ?_
    exact Vs.intro sy ⟨(v2 + 1), rfl, h⟩
  have h := cond_f h c1
  refine TriE.exit ?_
  exact Vs.intro sy ⟨(), rfl, h⟩
theorem slices_ContainsFunc_PartCount_ok (n : Nat) (a0 : List PartCount) (a1 : Str) (a2 : Int) (r : Bool) (h : slices_ContainsFunc_PartCount n a0 a1 a2 = some r) : FnL Tryz.prog 167 [eS 2 ePartCount a0, .fn (.func 168) [] [.ptr 0 0 0]] [some (.row 2 [.agg [vt a1, vi a2]])] (vb r) [some (.row 2 [.agg [vt a1, vi a2]])] := by
  dsimp only [slices_ContainsFunc_PartCount] at h
  refine FnL.ofS (ts := [4]) Tryz.call167 Tryz.func167 rfl rfl (Nat.le_of_ble_eq_true rfl) (Nat.le_of_ble_eq_true rfl) (hall_of (.cons rfl .nil)) ?_
  refine sr [(0, eS 2 ePartCount a0), (1, .fn (.func 168) [] [.ptr 0 0 0])] [some (.row 2 [.agg [vt a1, vi a2]])] ?_
  refine sj ?_
  refine rn 2 [(5, eS 2 ePartCount a0), (6, .fn (.func 168) [] [.ptr 0 0 0])] [some (.row 2 [.agg [vt a1, vi a2]])] ?_
  obtain ⟨y1, hy1, h⟩ := bind_some h
  refine RegJ.op (Op1.call (y' := vi y1) (obx := [some (.row 2 [.agg [vt a1, vi a2]])]) (oby := [some (.row 2 [.agg [vt a1, vi a2]])]) (ob2 := [some (.row 2 [.agg [vt a1, vi a2]])]) _ _ (cy (I0 7 (.call 201 [(.t 5), (.t 6)]))) rfl (slices_IndexFunc_PartCount_ok n a0 a1 a2 y1 hy1) [0] (by kernel_rfl) (.cons rfl (.cons rfl (.cons rfl .nil))) (by kernel_rfl) (by kernel_rfl) (.cons rfl .nil) (by kernel_rfl) (.cons rfl .nil) (by kernel_rfl)) ?_
  refine jq 2 [(4, vb (decide ((0 : Int) ≤ y1)))] [some (.row 2 [.agg [vt a1, vi a2]])] ?_
  refine TriE.ret ?_
  have h := Option.some.inj h
  subst h
  exact DoneS.ret (S' := ⟨[(4, vb (decide ((0 : Int) ≤ y1)))], [some (.row 2 [.agg [vt a1, vi a2]])]⟩) Sees.refl rfl rfl
theorem restore_checkCounts_ok (n : Nat) (a0 : List PartCount) (a1 : Int) (r : Int) (h : restore_checkCounts n a0 a1 = some r) : FnL Tryz.prog 108 [eS 2 ePartCount a0, vi a1] [] (vi r) [] := by
  dsimp only [restore_checkCounts] at h
  refine FnL.ofS (ts := [4]) Tryz.call108 Tryz.func108 rfl rfl (Nat.le_of_ble_eq_true rfl) (Nat.le_of_ble_eq_true rfl) (fun j h => absurd h (Nat.not_lt_zero j)) ?_
  refine sr [(0, eS 2 ePartCount a0), (1, vi a1)] [] ?_
  refine TriE.seqK h (fun (_ : Unit) => St.mk [] []) ?_ ?_
  · rintro ⟨⟩ h
    refine sr [(4, vi 0)] [] ?_
    refine TriE.ret ?_
    have h := Option.some.inj h
    subst h
    exact DoneS.ret (S' := ⟨[(4, vi 0)], []⟩) Sees.refl rfl rfl
  intro k1 h
  refine sj ?_
  refine rn 1 [(0, eS 2 ePartCount a0), (1, vi a1), (7, eS 2 ePartCount a0)] [] ?_
  refine jv (vi (a0.length : Int)) (cy (I0 8 (.len 0 (.t 7)))) (ok_len_m rfl) rfl ?_
  refine jq 1 [(0, eS 2 ePartCount a0), (1, vi a1), (7, eS 2 ePartCount a0), (8, vi (a0.length : Int)), (9, vi 0)] [] ?_
  refine TriE.block ?_
  refine TriE.sees (S' := ⟨[(0, eS 2 ePartCount a0), (1, vi a1), (7, eS 2 ePartCount a0), (8, vi (a0.length : Int)), (9, vi 0)], []⟩) sy ?_
  refine TriE.loopN h (fun (v4 : Nat) => St.mk [(0, eS 2 ePartCount a0), (1, vi a1), (7, eS 2 ePartCount a0), (8, vi (a0.length : Int)), (9, vi v4)] []) rfl ?_
  clear h
  rintro back v4 h
  dsimp only [restore_checkCounts_L1] at h
  refine sj ?_
  refine jv (vb (decide (v4 < a0.length))) (cy (I0 10 (.bin .lss false (.t 9) (.t 8)))) (n_lss (i := v4) (j := a0.length) rfl rfl) rfl ?_
  refine jp [(0, eS 2 ePartCount a0), (1, vi a1), (7, eS 2 ePartCount a0), (8, vi (a0.length : Int)), (9, vi v4), (10, vb (decide (v4 < a0.length)))] ?_
  refine TriE.seq ?_
  refine TriE.cond (b := decide (v4 < a0.length)) rfl (fun c1 => ?_) (fun c1 => ?_)
  · have h := cond_t h c1
    refine TriE.skip ?_
    refine TriE.seq ?_
    refine TriE.block ?_
    refine sj ?_
    refine rn 1 [(0, eS 2 ePartCount a0), (1, vi a1), (7, eS 2 ePartCount a0), (8, vi (a0.length : Int)), (9, vi v4), (11, vi v4)] [] ?_
    refine jv (.fptr 2 (List.map ePartCount a0) v4 0) (cy (I0 12 (.iaddr 2 (.t 7) (.t 9)))) (ok_iaddr_m (j := v4) rfl rfl rfl c1) rfl ?_
    refine jv (.agg [vt ((ix a0 v4).Part), vi ((ix a0 v4).Count)]) (cy (I0 13 (.load true 2 (.t 12)))) (ok_load_fm (v := .agg [vt ((ix a0 v4).Part), vi ((ix a0 v4).Count)]) rfl c1 rfl) rfl ?_
    refine jq 3 [(0, eS 2 ePartCount a0), (1, vi a1), (7, eS 2 ePartCount a0), (8, vi (a0.length : Int)), (9, vi v4), (6, .ptr 0 0 0), (5, vi v4)] [some (.row 2 [.agg [vt ((ix a0 v4).Part), vi ((ix a0 v4).Count)]])] ?_
    refine TriE.block ?_
    refine sj ?_
    refine rn 2 [(0, eS 2 ePartCount a0), (1, vi a1), (7, eS 2 ePartCount a0), (8, vi (a0.length : Int)), (9, vi v4), (6, .ptr 0 0 0), (5, vi v4), (16, vt ((ix a0 v4).Part))] [some (.row 2 [.agg [vt ((ix a0 v4).Part), vi ((ix a0 v4).Count)]])] ?_
    obtain ⟨y5, hy5, h⟩ := bind_some h
    refine RegJ.op (Op1.call (y' := vb y5) (obx := []) (oby := []) (ob2 := [some (.row 2 [.agg [vt ((ix a0 v4).Part), vi ((ix a0 v4).Count)]])]) _ _ (cy (I0 17 (.call 89 [(.t 16)]))) rfl (restore_isName_ok n ((ix a0 v4).Part) y5 hy5) [] (by kernel_rfl) (.cons rfl (.cons rfl .nil)) (by kernel_rfl) (by kernel_rfl) ObsRen.nil (by kernel_rfl) ObsRen.nil (by kernel_rfl)) ?_
    refine jq 2 [(0, eS 2 ePartCount a0), (1, vi a1), (7, eS 2 ePartCount a0), (8, vi (a0.length : Int)), (9, vi v4), (6, .ptr 0 0 0), (5, vi v4), (14, vb (!y5))] [some (.row 2 [.agg [vt ((ix a0 v4).Part), vi ((ix a0 v4).Count)]])] ?_
    refine TriE.cond (b := !y5) rfl (fun c2 => ?_) (fun c2 => ?_)
    · have h := cond_t h c2
      refine sr [(4, vi 4)] [some (.row 2 [.agg [vt ((ix a0 v4).Part), vi ((ix a0 v4).Count)]])] ?_
      refine TriE.ret ?_
      have h := Option.some.inj h
      subst h
      exact DoneS.ret (S' := ⟨[(4, vi 4)], []⟩) (sc [] (by decide) (by kernel_rfl) ObRen.nil rfl rfl) rfl rfl
    have h := cond_f h c2
    refine sj ?_
    refine rn 2 [(0, eS 2 ePartCount a0), (1, vi a1), (7, eS 2 ePartCount a0), (8, vi (a0.length : Int)), (9, vi v4), (6, .ptr 0 0 0), (20, eS 2 ePartCount a0), (21, vi v4)] [some (.row 2 [.agg [vt ((ix a0 v4).Part), vi ((ix a0 v4).Count)]])] ?_
    obtain ⟨c3, h⟩ := chk_some h
    refine jv (eS 2 ePartCount (List.take v4 a0)) (cy (I0 22 (.slc 2 (.t 20) none (some (.t 21)) none))) (ok_slc_hi (j := v4) rfl rfl rfl c3) rfl ?_
    refine rn 1 [(0, eS 2 ePartCount a0), (1, vi a1), (7, eS 2 ePartCount a0), (8, vi (a0.length : Int)), (9, vi v4), (6, .ptr 0 0 0), (22, eS 2 ePartCount (List.take v4 a0)), (23, .fn (.func 168) [] [.ptr 0 0 0])] [some (.row 2 [.agg [vt ((ix a0 v4).Part), vi ((ix a0 v4).Count)]])] ?_
    obtain ⟨y6, hy6, h⟩ := bind_some h
    refine RegJ.op (Op1.call (y' := vb y6) (obx := [some (.row 2 [.agg [vt ((ix a0 v4).Part), vi ((ix a0 v4).Count)]])]) (oby := [some (.row 2 [.agg [vt ((ix a0 v4).Part), vi ((ix a0 v4).Count)]])]) (ob2 := [some (.row 2 [.agg [vt ((ix a0 v4).Part), vi ((ix a0 v4).Count)]])]) _ _ (cy (I0 24 (.call 167 [(.t 22), (.t 23)]))) rfl (slices_ContainsFunc_PartCount_ok n (List.take v4 a0) ((ix a0 v4).Part) ((ix a0 v4).Count) y6 hy6) [0] (by kernel_rfl) (.cons rfl (.cons rfl (.cons rfl .nil))) (by kernel_rfl) (by kernel_rfl) (.cons rfl .nil) (by kernel_rfl) (.cons rfl .nil) (by kernel_rfl)) ?_
    refine jq 1 [(0, eS 2 ePartCount a0), (1, vi a1), (7, eS 2 ePartCount a0), (8, vi (a0.length : Int)), (9, vi v4), (6, .ptr 0 0 0), (19, vb y6)] [some (.row 2 [.agg [vt ((ix a0 v4).Part), vi ((ix a0 v4).Count)]])] ?_
    refine TriE.cond (b := y6) rfl (fun c4 => ?_) (fun c4 => ?_)
    · have h := cond_t h c4
      refine sr [(4, vi 5)] [some (.row 2 [.agg [vt ((ix a0 v4).Part), vi ((ix a0 v4).Count)]])] ?_
      refine TriE.ret ?_
      have h := Option.some.inj h
      subst h
      exact DoneS.ret (S' := ⟨[(4, vi 5)], []⟩) (sc [] (by decide) (by kernel_rfl) ObRen.nil rfl rfl) rfl rfl
    have h := cond_f h c4
    refine sj ?_
    refine rn 3 [(0, eS 2 ePartCount a0), (1, vi a1), (7, eS 2 ePartCount a0), (8, vi (a0.length : Int)), (9, vi v4), (27, vi ((ix a0 v4).Count)), (28, vi a1)] [some (.row 2 [.agg [vt ((ix a0 v4).Part), vi ((ix a0 v4).Count)]])] ?_
    obtain ⟨y7, hy7, h⟩ := bind_some h
    refine RegJ.op (Op1.call (y' := vb ((decide (1 ≤ ((ix a0 v4).Count))) && (decide (((ix a0 v4).Count) ≤ a1)))) (obx := []) (oby := []) (ob2 := [some (.row 2 [.agg [vt ((ix a0 v4).Part), vi ((ix a0 v4).Count)]])]) _ _ (cy (I0 29 (.call 91 [(.t 27), (.c (.p (.int .i64 1))), (.t 28)]))) rfl (restore_within_ok n ((ix a0 v4).Count) 1 a1 y7 hy7) [] (by kernel_rfl) (.cons rfl (.cons rfl (.cons rfl (.cons rfl .nil)))) (by kernel_rfl) (by kernel_rfl) ObsRen.nil (by kernel_rfl) ObsRen.nil (by kernel_rfl)) ?_
    refine jq 2 [(0, eS 2 ePartCount a0), (1, vi a1), (7, eS 2 ePartCount a0), (8, vi (a0.length : Int)), (9, vi v4), (25, vb (!((decide (1 ≤ ((ix a0 v4).Count))) && (decide (((ix a0 v4).Count) ≤ a1)))))] [some (.row 2 [.agg [vt ((ix a0 v4).Part), vi ((ix a0 v4).Count)]])] ?_
    refine TriE.cond (b := !((decide (1 ≤ ((ix a0 v4).Count))) && (decide (((ix a0 v4).Count) ≤ a1)))) rfl (fun c5 => ?_) (fun c5 => ?_)
    · have h := cond_t h c5
      refine sr [(4, vi 2)] [some (.row 2 [.agg [vt ((ix a0 v4).Part), vi ((ix a0 v4).Count)]])] ?_
      refine TriE.ret ?_
      have h := Option.some.inj h
      subst h
      exact DoneS.ret (S' := ⟨[(4, vi 2)], []⟩) (sc [] (by decide) (by kernel_rfl) ObRen.nil rfl rfl) rfl rfl
    have h := cond_f h c5
    refine TriE.skip ?_
    refine TriE.regJ ?_
    obtain ⟨c6, h⟩ := chk_some h
    refine jv (vi ((v4 + 1 : Nat) : Int)) (cy (I0 31 (.bin .add false (.t 9) (.c (.p (.int .i64 1)))))) (r_addn (i := v4) (j := 1) rfl rfl c6) rfl ?_
    refine jq 1 [(0, eS 2 ePartCount a0), (1, vi a1), (7, eS 2 ePartCount a0), (8, vi (a0.length : Int)), (9, vi ((v4 + 1 : Nat) : Int))] [some (.row 2 [.agg [vt ((ix a0 v4).Part), vi ((ix a0 v4).Count)]])] ?_
    exact Vs.intro (sc [] (by decide) (by kernel_rfl) ObRen.nil rfl rfl) ⟨(v4 + 1), rfl, h⟩
  have h := cond_f h c1
  refine TriE.exit ?_
  exact Vs.intro sy ⟨(), rfl, h⟩
theorem restore_list_checkTask_ok (n : Nat) (a0 : List Task) (a1 : Int) (r : Int) (h : restore_list_checkTask n a0 a1 = some r) : FnL Tryz.prog 85 [eS 6 eTask a0, vi a1] [] (vi r) [] := by
  dsimp only [restore_list_checkTask] at h
  refine FnL.ofS (ts := [4]) Tryz.call85 Tryz.func85 rfl rfl (Nat.le_of_ble_eq_true rfl) (Nat.le_of_ble_eq_true rfl) (fun j h => absurd h (Nat.not_lt_zero j)) ?_
  refine sr [(0, eS 6 eTask a0), (1, vi a1)] [] ?_
  refine sj ?_
  refine rn 2 [(0, eS 6 eTask a0), (1, vi a1), (11, eS 6 eTask a0), (12, vi a1)] [] ?_
  obtain ⟨c1, h⟩ := chk_some h
  refine jv (.fptr 6 (List.map eTask a0) a1.toNat 0) (cy (I0 13 (.iaddr 6 (.t 11) (.t 12)))) (ok_iaddr_m (j := a1.toNat) rfl rfl (inB_to c1) (inB_lt c1)) rfl ?_
  obtain ⟨c2, h⟩ := chk_some h
  refine jv (.agg [vt ((ix a0 a1.toNat).Name), vi ((ix a0 a1.toNat).Cents), vi ((ix a0 a1.toNat).Hours), eS 1 vt ((ix a0 a1.toNat).Needs), eS 1 (eS 1 vt) ((ix a0 a1.toNat).OneOf), eS 2 ePartCount ((ix a0 a1.toNat).Parts)]) (cy (I0 14 (.load true 6 (.t 13)))) (ok_load_fm (v := .agg [vt ((ix a0 a1.toNat).Name), vi ((ix a0 a1.toNat).Cents), vi ((ix a0 a1.toNat).Hours), eS 1 vt ((ix a0 a1.toNat).Needs), eS 1 (eS 1 vt) ((ix a0 a1.toNat).OneOf), eS 2 ePartCount ((ix a0 a1.toNat).Parts)]) rfl c2 rfl) rfl ?_
  refine jq 2 [(0, eS 6 eTask a0), (1, vi a1), (5, .ptr 0 0 0)] [some (.row 6 [.agg [vt ((ix a0 a1.toNat).Name), vi ((ix a0 a1.toNat).Cents), vi ((ix a0 a1.toNat).Hours), eS 1 vt ((ix a0 a1.toNat).Needs), eS 1 (eS 1 vt) ((ix a0 a1.toNat).OneOf), eS 2 ePartCount ((ix a0 a1.toNat).Parts)]])] ?_
  refine sr [(0, eS 6 eTask a0), (1, vi a1), (5, .ptr 0 0 0), (6, .fn (.func 152) [] [])] [some (.row 6 [.agg [vt ((ix a0 a1.toNat).Name), vi ((ix a0 a1.toNat).Cents), vi ((ix a0 a1.toNat).Hours), eS 1 vt ((ix a0 a1.toNat).Needs), eS 1 (eS 1 vt) ((ix a0 a1.toNat).OneOf), eS 2 ePartCount ((ix a0 a1.toNat).Parts)]])] ?_
  refine TriE.seq ?_
  refine TriE.block ?_
  refine sj ?_
  refine rn 2 [(0, eS 6 eTask a0), (1, vi a1), (5, .ptr 0 0 0), (6, .fn (.func 152) [] []), (17, vt ((ix a0 a1.toNat).Name))] [some (.row 6 [.agg [vt ((ix a0 a1.toNat).Name), vi ((ix a0 a1.toNat).Cents), vi ((ix a0 a1.toNat).Hours), eS 1 vt ((ix a0 a1.toNat).Needs), eS 1 (eS 1 vt) ((ix a0 a1.toNat).OneOf), eS 2 ePartCount ((ix a0 a1.toNat).Parts)]])] ?_
  obtain ⟨y1, hy1, h⟩ := bind_some h
  refine RegJ.op (Op1.call (y' := vb y1) (obx := []) (oby := []) (ob2 := [some (.row 6 [.agg [vt ((ix a0 a1.toNat).Name), vi ((ix a0 a1.toNat).Cents), vi ((ix a0 a1.toNat).Hours), eS 1 vt ((ix a0 a1.toNat).Needs), eS 1 (eS 1 vt) ((ix a0 a1.toNat).OneOf), eS 2 ePartCount ((ix a0 a1.toNat).Parts)]])]) _ _ (cy (I0 18 (.call 89 [(.t 17)]))) rfl (restore_isName_ok n ((ix a0 a1.toNat).Name) y1 hy1) [] (by kernel_rfl) (.cons rfl (.cons rfl .nil)) (by kernel_rfl) (by kernel_rfl) ObsRen.nil (by kernel_rfl) ObsRen.nil (by kernel_rfl)) ?_
  refine jq 2 [(0, eS 6 eTask a0), (1, vi a1), (5, .ptr 0 0 0), (6, .fn (.func 152) [] []), (15, vb (!y1))] [some (.row 6 [.agg [vt ((ix a0 a1.toNat).Name), vi ((ix a0 a1.toNat).Cents), vi ((ix a0 a1.toNat).Hours), eS 1 vt ((ix a0 a1.toNat).Needs), eS 1 (eS 1 vt) ((ix a0 a1.toNat).OneOf), eS 2 ePartCount ((ix a0 a1.toNat).Parts)]])] ?_
  refine TriE.cond (b := !y1) rfl (fun c3 => ?_) (fun c3 => ?_)
  · have h := cond_t h c3
    refine sr [(4, vi 4)] [some (.row 6 [.agg [vt ((ix a0 a1.toNat).Name), vi ((ix a0 a1.toNat).Cents), vi ((ix a0 a1.toNat).Hours), eS 1 vt ((ix a0 a1.toNat).Needs), eS 1 (eS 1 vt) ((ix a0 a1.toNat).OneOf), eS 2 ePartCount ((ix a0 a1.toNat).Parts)]])] ?_
    refine TriE.ret ?_
    have h := Option.some.inj h
    subst h
    exact DoneS.ret (S' := ⟨[(4, vi 4)], []⟩) (sc [] (by decide) (by kernel_rfl) ObRen.nil rfl rfl) rfl rfl
  have h := cond_f h c3
  refine sj ?_
  refine rn 3 [(0, eS 6 eTask a0), (1, vi a1), (5, .ptr 0 0 0), (6, .fn (.func 152) [] []), (21, eS 6 eTask a0), (23, vt ((ix a0 a1.toNat).Name))] [some (.row 6 [.agg [vt ((ix a0 a1.toNat).Name), vi ((ix a0 a1.toNat).Cents), vi ((ix a0 a1.toNat).Hours), eS 1 vt ((ix a0 a1.toNat).Needs), eS 1 (eS 1 vt) ((ix a0 a1.toNat).OneOf), eS 2 ePartCount ((ix a0 a1.toNat).Parts)]])] ?_
  obtain ⟨y2, hy2, h⟩ := bind_some h
  refine RegJ.op (Op1.call (y' := vi y2) (obx := []) (oby := []) (ob2 := [some (.row 6 [.agg [vt ((ix a0 a1.toNat).Name), vi ((ix a0 a1.toNat).Cents), vi ((ix a0 a1.toNat).Hours), eS 1 vt ((ix a0 a1.toNat).Needs), eS 1 (eS 1 vt) ((ix a0 a1.toNat).OneOf), eS 2 ePartCount ((ix a0 a1.toNat).Parts)]])]) _ _ (cy (I0 24 (.call 117 [(.t 21), (.t 23)]))) rfl (restore_list_find_ok n a0 ((ix a0 a1.toNat).Name) y2 hy2) [] (by kernel_rfl) (.cons rfl (.cons rfl (.cons rfl .nil))) (by kernel_rfl) (by kernel_rfl) ObsRen.nil (by kernel_rfl) ObsRen.nil (by kernel_rfl)) ?_
  refine jq 3 [(0, eS 6 eTask a0), (5, .ptr 0 0 0), (6, .fn (.func 152) [] []), (20, vb (decide (y2 < a1)))] [some (.row 6 [.agg [vt ((ix a0 a1.toNat).Name), vi ((ix a0 a1.toNat).Cents), vi ((ix a0 a1.toNat).Hours), eS 1 vt ((ix a0 a1.toNat).Needs), eS 1 (eS 1 vt) ((ix a0 a1.toNat).OneOf), eS 2 ePartCount ((ix a0 a1.toNat).Parts)]])] ?_
  refine TriE.cond (b := decide (y2 < a1)) rfl (fun c4 => ?_) (fun c4 => ?_)
  · have h := cond_t h c4
    refine sr [(4, vi 5)] [some (.row 6 [.agg [vt ((ix a0 a1.toNat).Name), vi ((ix a0 a1.toNat).Cents), vi ((ix a0 a1.toNat).Hours), eS 1 vt ((ix a0 a1.toNat).Needs), eS 1 (eS 1 vt) ((ix a0 a1.toNat).OneOf), eS 2 ePartCount ((ix a0 a1.toNat).Parts)]])] ?_
    refine TriE.ret ?_
    have h := Option.some.inj h
    subst h
    exact DoneS.ret (S' := ⟨[(4, vi 5)], []⟩) (sc [] (by decide) (by kernel_rfl) ObRen.nil rfl rfl) rfl rfl
  have h := cond_f h c4
  refine sj ?_
  refine rn 2 [(0, eS 6 eTask a0), (5, .ptr 0 0 0), (6, .fn (.func 152) [] []), (29, vi ((ix a0 a1.toNat).Cents))] [some (.row 6 [.agg [vt ((ix a0 a1.toNat).Name), vi ((ix a0 a1.toNat).Cents), vi ((ix a0 a1.toNat).Hours), eS 1 vt ((ix a0 a1.toNat).Needs), eS 1 (eS 1 vt) ((ix a0 a1.toNat).OneOf), eS 2 ePartCount ((ix a0 a1.toNat).Parts)]])] ?_
  obtain ⟨y3, hy3, h⟩ := bind_some h
  refine RegJ.op (Op1.call (y' := vb ((decide (0 ≤ ((ix a0 a1.toNat).Cents))) && (decide (((ix a0 a1.toNat).Cents) ≤ 1000000000)))) (obx := []) (oby := []) (ob2 := [some (.row 6 [.agg [vt ((ix a0 a1.toNat).Name), vi ((ix a0 a1.toNat).Cents), vi ((ix a0 a1.toNat).Hours), eS 1 vt ((ix a0 a1.toNat).Needs), eS 1 (eS 1 vt) ((ix a0 a1.toNat).OneOf), eS 2 ePartCount ((ix a0 a1.toNat).Parts)]])]) _ _ (cy (I0 30 (.call 91 [(.t 29), (.c (.p (.int .i64 0))), (.c (.p (.int .i64 1000000000)))]))) rfl (restore_within_ok n ((ix a0 a1.toNat).Cents) 0 1000000000 y3 hy3) [] (by kernel_rfl) (.cons rfl (.cons rfl (.cons rfl (.cons rfl .nil)))) (by kernel_rfl) (by kernel_rfl) ObsRen.nil (by kernel_rfl) ObsRen.nil (by kernel_rfl)) ?_
  refine rn 2 [(0, eS 6 eTask a0), (5, .ptr 0 0 0), (6, .fn (.func 152) [] []), (32, vb (!((decide (0 ≤ ((ix a0 a1.toNat).Cents))) && (decide (((ix a0 a1.toNat).Cents) ≤ 1000000000)))))] [some (.row 6 [.agg [vt ((ix a0 a1.toNat).Name), vi ((ix a0 a1.toNat).Cents), vi ((ix a0 a1.toNat).Hours), eS 1 vt ((ix a0 a1.toNat).Needs), eS 1 (eS 1 vt) ((ix a0 a1.toNat).OneOf), eS 2 ePartCount ((ix a0 a1.toNat).Parts)]])] ?_
  refine RegJ.op (Op1.valk (v := .ptr 0 0 2) _ _ (cy (IG 33 (.faddr 2 (.t 5)) 32 false)) rfl (by kernel_rfl) (fun hg => (.cons rfl .nil))) ?_
  refine RegJ.op (Op1.valk (v := vi ((ix a0 a1.toNat).Hours)) _ _ (cy (IG 34 (.load false 1 (.t 33)) 32 false)) rfl (by kernel_rfl) (fun hg => (.cons hg .nil))) ?_
  obtain ⟨y4, hy4, h⟩ := bind_some h
  refine RegJ.op (Op1.callg (g := !(!((decide (0 ≤ ((ix a0 a1.toNat).Cents))) && (decide (((ix a0 a1.toNat).Cents) ≤ 1000000000))))) (y' := vb ((decide (0 ≤ ((ix a0 a1.toNat).Hours))) && (decide (((ix a0 a1.toNat).Hours) ≤ 10000)))) (obx := []) _ _ (cy (IG 35 (.call 91 [(.t 34), (.c (.p (.int .i64 0))), (.c (.p (.int .i64 10000)))]) 32 false)) rfl (fun hg => restore_within_ok n ((ix a0 a1.toNat).Hours) 0 10000 y4 (gcall_some hy4 hg)) [] (fun hg => by kernel_rfl) (fun hg => (.cons rfl (.cons hg (.cons rfl (.cons rfl .nil))))) (by kernel_rfl) (by kernel_rfl) ObsRen.nil (by kernel_rfl) (by kernel_rfl)) ?_
  refine RegJ.op (Op1.valk (v := vb (!((decide (0 ≤ ((ix a0 a1.toNat).Hours))) && (decide (((ix a0 a1.toNat).Hours) ≤ 10000))))) _ _ (cy (IG 36 (.un .not (.t 35)) 32 false)) rfl (by kernel_rfl) (fun hg => (.cons hg .nil))) ?_
  refine RegJ.op (Op1.or (cy (I0 37 (.pick (.t 32) (.c (.p (.bool true))) (.t 36)))) rfl rfl (by first | exact hokO1 | exact hokO0 | simp)) ?_
  refine jq 1 [(0, eS 6 eTask a0), (5, .ptr 0 0 0), (6, .fn (.func 152) [] []), (27, vb ((!((decide (0 ≤ ((ix a0 a1.toNat).Cents))) && (decide (((ix a0 a1.toNat).Cents) ≤ 1000000000)))) || (!((decide (0 ≤ ((ix a0 a1.toNat).Hours))) && (decide (((ix a0 a1.toNat).Hours) ≤ 10000))))))] [some (.row 6 [.agg [vt ((ix a0 a1.toNat).Name), vi ((ix a0 a1.toNat).Cents), vi ((ix a0 a1.toNat).Hours), eS 1 vt ((ix a0 a1.toNat).Needs), eS 1 (eS 1 vt) ((ix a0 a1.toNat).OneOf), eS 2 ePartCount ((ix a0 a1.toNat).Parts)]])] ?_
  refine TriE.cond (b := (!((decide (0 ≤ ((ix a0 a1.toNat).Cents))) && (decide (((ix a0 a1.toNat).Cents) ≤ 1000000000)))) || (!((decide (0 ≤ ((ix a0 a1.toNat).Hours))) && (decide (((ix a0 a1.toNat).Hours) ≤ 10000))))) rfl (fun c5 => ?_) (fun c5 => ?_)
  · have h := cond_t h c5
    refine sr [(4, vi 2)] [some (.row 6 [.agg [vt ((ix a0 a1.toNat).Name), vi ((ix a0 a1.toNat).Cents), vi ((ix a0 a1.toNat).Hours), eS 1 vt ((ix a0 a1.toNat).Needs), eS 1 (eS 1 vt) ((ix a0 a1.toNat).OneOf), eS 2 ePartCount ((ix a0 a1.toNat).Parts)]])] ?_
    refine TriE.ret ?_
    have h := Option.some.inj h
    subst h
    exact DoneS.ret (S' := ⟨[(4, vi 2)], []⟩) (sc [] (by decide) (by kernel_rfl) ObRen.nil rfl rfl) rfl rfl
  have h := cond_f h c5
  refine sj ?_
  refine rn 2 [(0, eS 6 eTask a0), (5, .ptr 0 0 0), (6, .fn (.func 152) [] []), (40, eS 1 vt ((ix a0 a1.toNat).Needs))] [some (.row 6 [.agg [vt ((ix a0 a1.toNat).Name), vi ((ix a0 a1.toNat).Cents), vi ((ix a0 a1.toNat).Hours), eS 1 vt ((ix a0 a1.toNat).Needs), eS 1 (eS 1 vt) ((ix a0 a1.toNat).OneOf), eS 2 ePartCount ((ix a0 a1.toNat).Parts)]])] ?_
  refine jv (vi ((((ix a0 a1.toNat).Needs).length : Nat) : Int)) (cy (I0 41 (.len 0 (.t 40)))) (ok_len_m rfl) rfl ?_
  refine jv (vb (decide (10 < (((ix a0 a1.toNat).Needs).length)))) (cy (I0 42 (.bin .gtr false (.t 41) (.c (.p (.int .i64 10)))))) (n_gtr (i := ((ix a0 a1.toNat).Needs).length) (j := 10) rfl rfl) rfl ?_
  refine rn 1 [(0, eS 6 eTask a0), (5, .ptr 0 0 0), (6, .fn (.func 152) [] []), (43, vb (decide (10 < (((ix a0 a1.toNat).Needs).length))))] [some (.row 6 [.agg [vt ((ix a0 a1.toNat).Name), vi ((ix a0 a1.toNat).Cents), vi ((ix a0 a1.toNat).Hours), eS 1 vt ((ix a0 a1.toNat).Needs), eS 1 (eS 1 vt) ((ix a0 a1.toNat).OneOf), eS 2 ePartCount ((ix a0 a1.toNat).Parts)]])] ?_
  refine RegJ.op (Op1.valk (v := .ptr 0 0 4) _ _ (cy (IG 44 (.faddr 4 (.t 5)) 43 false)) rfl (by kernel_rfl) (fun hg => (.cons rfl .nil))) ?_
  refine RegJ.op (Op1.valk (v := eS 1 (eS 1 vt) ((ix a0 a1.toNat).OneOf)) _ _ (cy (IG 45 (.load false 1 (.t 44)) 43 false)) rfl (by kernel_rfl) (fun hg => (.cons hg .nil))) ?_
  refine RegJ.op (Op1.valg (v := vi ((((ix a0 a1.toNat).OneOf).length : Nat) : Int)) _ _ (cy (IG 46 (.len 0 (.t 45)) 43 false)) rfl (fun hg => (ok_len_m rfl)) (fun hg => (.cons hg .nil))) ?_
  refine RegJ.op (Op1.valg (v := vb (decide (6 < (((ix a0 a1.toNat).OneOf).length)))) _ _ (cy (IG 47 (.bin .gtr false (.t 46) (.c (.p (.int .i64 6)))) 43 false)) rfl (fun hg => (n_gtr (i := ((ix a0 a1.toNat).OneOf).length) (j := 6) rfl rfl)) (fun hg => (.cons hg (.cons rfl .nil)))) ?_
  refine RegJ.op (Op1.or (cy (I0 48 (.pick (.t 43) (.c (.p (.bool true))) (.t 47)))) rfl rfl (by first | exact hokO1 | exact hokO0 | simp)) ?_
  refine rn 1 [(0, eS 6 eTask a0), (5, .ptr 0 0 0), (6, .fn (.func 152) [] []), (49, vb ((decide (10 < (((ix a0 a1.toNat).Needs).length))) || (decide (6 < (((ix a0 a1.toNat).OneOf).length)))))] [some (.row 6 [.agg [vt ((ix a0 a1.toNat).Name), vi ((ix a0 a1.toNat).Cents), vi ((ix a0 a1.toNat).Hours), eS 1 vt ((ix a0 a1.toNat).Needs), eS 1 (eS 1 vt) ((ix a0 a1.toNat).OneOf), eS 2 ePartCount ((ix a0 a1.toNat).Parts)]])] ?_
  refine RegJ.op (Op1.valk (v := .ptr 0 0 4) _ _ (cy (IG 50 (.faddr 4 (.t 5)) 49 false)) rfl (by kernel_rfl) (fun hg => (.cons rfl .nil))) ?_
  refine RegJ.op (Op1.valk (v := eS 1 (eS 1 vt) ((ix a0 a1.toNat).OneOf)) _ _ (cy (IG 51 (.load false 1 (.t 50)) 49 false)) rfl (by kernel_rfl) (fun hg => (.cons hg .nil))) ?_
  refine RegJ.op (Op1.valk (v := .fn (.func 152) [] []) _ _ (cy (IG 52 (.mov (.t 6)) 49 false)) rfl (by kernel_rfl) (fun hg => (.cons rfl .nil))) ?_
  obtain ⟨y5, hy5, h⟩ := bind_some h
  refine RegJ.op (Op1.callg (g := !((decide (10 < (((ix a0 a1.toNat).Needs).length))) || (decide (6 < (((ix a0 a1.toNat).OneOf).length))))) (y' := vb y5) (obx := []) _ _ (cy (IG 53 (.call 118 [(.t 51), (.t 52)]) 49 false)) rfl (fun hg => slices_ContainsFunc_string_ok n ((ix a0 a1.toNat).OneOf) y5 (gcall_some hy5 hg)) [] (fun hg => by kernel_rfl) (fun hg => (.cons rfl (.cons hg (.cons hg .nil)))) (by kernel_rfl) (by kernel_rfl) ObsRen.nil (by kernel_rfl) (by kernel_rfl)) ?_
  refine RegJ.op (Op1.or (cy (I0 54 (.pick (.t 49) (.c (.p (.bool true))) (.t 53)))) rfl rfl (by first | exact hokO1 | exact hokO0 | simp)) ?_
  refine rn 1 [(0, eS 6 eTask a0), (5, .ptr 0 0 0), (55, vb (((decide (10 < (((ix a0 a1.toNat).Needs).length))) || (decide (6 < (((ix a0 a1.toNat).OneOf).length)))) || y5))] [some (.row 6 [.agg [vt ((ix a0 a1.toNat).Name), vi ((ix a0 a1.toNat).Cents), vi ((ix a0 a1.toNat).Hours), eS 1 vt ((ix a0 a1.toNat).Needs), eS 1 (eS 1 vt) ((ix a0 a1.toNat).OneOf), eS 2 ePartCount ((ix a0 a1.toNat).Parts)]])] ?_
  refine RegJ.op (Op1.valk (v := .ptr 0 0 5) _ _ (cy (IG 56 (.faddr 5 (.t 5)) 55 false)) rfl (by kernel_rfl) (fun hg => (.cons rfl .nil))) ?_
  refine RegJ.op (Op1.valk (v := eS 2 ePartCount ((ix a0 a1.toNat).Parts)) _ _ (cy (IG 57 (.load false 1 (.t 56)) 55 false)) rfl (by kernel_rfl) (fun hg => (.cons hg .nil))) ?_
  refine RegJ.op (Op1.valg (v := vi ((((ix a0 a1.toNat).Parts).length : Nat) : Int)) _ _ (cy (IG 58 (.len 0 (.t 57)) 55 false)) rfl (fun hg => (ok_len_m rfl)) (fun hg => (.cons hg .nil))) ?_
  refine RegJ.op (Op1.valg (v := vb (decide (10 < (((ix a0 a1.toNat).Parts).length)))) _ _ (cy (IG 59 (.bin .gtr false (.t 58) (.c (.p (.int .i64 10)))) 55 false)) rfl (fun hg => (n_gtr (i := ((ix a0 a1.toNat).Parts).length) (j := 10) rfl rfl)) (fun hg => (.cons hg (.cons rfl .nil)))) ?_
  refine RegJ.op (Op1.or (cy (I0 60 (.pick (.t 55) (.c (.p (.bool true))) (.t 59)))) rfl rfl (by first | exact hokO1 | exact hokO0 | simp)) ?_
  refine jq 1 [(0, eS 6 eTask a0), (5, .ptr 0 0 0), (38, vb ((((decide (10 < (((ix a0 a1.toNat).Needs).length))) || (decide (6 < (((ix a0 a1.toNat).OneOf).length)))) || y5) || (decide (10 < (((ix a0 a1.toNat).Parts).length)))))] [some (.row 6 [.agg [vt ((ix a0 a1.toNat).Name), vi ((ix a0 a1.toNat).Cents), vi ((ix a0 a1.toNat).Hours), eS 1 vt ((ix a0 a1.toNat).Needs), eS 1 (eS 1 vt) ((ix a0 a1.toNat).OneOf), eS 2 ePartCount ((ix a0 a1.toNat).Parts)]])] ?_
  refine TriE.cond (b := (((decide (10 < (((ix a0 a1.toNat).Needs).length))) || (decide (6 < (((ix a0 a1.toNat).OneOf).length)))) || y5) || (decide (10 < (((ix a0 a1.toNat).Parts).length)))) rfl (fun c6 => ?_) (fun c6 => ?_)
  · have h := cond_t h c6
    refine sr [(4, vi 8)] [some (.row 6 [.agg [vt ((ix a0 a1.toNat).Name), vi ((ix a0 a1.toNat).Cents), vi ((ix a0 a1.toNat).Hours), eS 1 vt ((ix a0 a1.toNat).Needs), eS 1 (eS 1 vt) ((ix a0 a1.toNat).OneOf), eS 2 ePartCount ((ix a0 a1.toNat).Parts)]])] ?_
    refine TriE.ret ?_
    have h := Option.some.inj h
    subst h
    exact DoneS.ret (S' := ⟨[(4, vi 8)], []⟩) (sc [] (by decide) (by kernel_rfl) ObRen.nil rfl rfl) rfl rfl
  have h := cond_f h c6
  refine TriE.skip ?_
  refine TriE.seq ?_
  refine sj ?_
  refine rn 3 [(0, eS 6 eTask a0), (5, .ptr 0 0 0), (61, eS 6 eTask a0), (63, eS 1 vt ((ix a0 a1.toNat).Needs))] [some (.row 6 [.agg [vt ((ix a0 a1.toNat).Name), vi ((ix a0 a1.toNat).Cents), vi ((ix a0 a1.toNat).Hours), eS 1 vt ((ix a0 a1.toNat).Needs), eS 1 (eS 1 vt) ((ix a0 a1.toNat).OneOf), eS 2 ePartCount ((ix a0 a1.toNat).Parts)]])] ?_
  obtain ⟨y6, hy6, h⟩ := bind_some h
  refine RegJ.op (Op1.call (y' := vi y6) (obx := []) (oby := []) (ob2 := [some (.row 6 [.agg [vt ((ix a0 a1.toNat).Name), vi ((ix a0 a1.toNat).Cents), vi ((ix a0 a1.toNat).Hours), eS 1 vt ((ix a0 a1.toNat).Needs), eS 1 (eS 1 vt) ((ix a0 a1.toNat).OneOf), eS 2 ePartCount ((ix a0 a1.toNat).Parts)]])]) _ _ (cy (I0 64 (.call 96 [(.t 61), (.t 63)]))) rfl (restore_list_known_ok n a0 ((ix a0 a1.toNat).Needs) y6 hy6) [] (by kernel_rfl) (.cons rfl (.cons rfl (.cons rfl .nil))) (by kernel_rfl) (by kernel_rfl) ObsRen.nil (by kernel_rfl) ObsRen.nil (by kernel_rfl)) ?_
  refine jq 1 [(0, eS 6 eTask a0), (5, .ptr 0 0 0), (7, vi y6)] [some (.row 6 [.agg [vt ((ix a0 a1.toNat).Name), vi ((ix a0 a1.toNat).Cents), vi ((ix a0 a1.toNat).Hours), eS 1 vt ((ix a0 a1.toNat).Needs), eS 1 (eS 1 vt) ((ix a0 a1.toNat).OneOf), eS 2 ePartCount ((ix a0 a1.toNat).Parts)]])] ?_
  refine sr [(0, eS 6 eTask a0), (5, .ptr 0 0 0), (7, vi y6), (66, vb (y6 != (0 : Int)))] [some (.row 6 [.agg [vt ((ix a0 a1.toNat).Name), vi ((ix a0 a1.toNat).Cents), vi ((ix a0 a1.toNat).Hours), eS 1 vt ((ix a0 a1.toNat).Needs), eS 1 (eS 1 vt) ((ix a0 a1.toNat).OneOf), eS 2 ePartCount ((ix a0 a1.toNat).Parts)]])] ?_
  refine TriE.cond (b := (y6 != (0 : Int))) rfl (fun c7 => ?_) (fun c7 => ?_)
  · have h := cond_t h c7
    refine sr [(4, vi y6)] [some (.row 6 [.agg [vt ((ix a0 a1.toNat).Name), vi ((ix a0 a1.toNat).Cents), vi ((ix a0 a1.toNat).Hours), eS 1 vt ((ix a0 a1.toNat).Needs), eS 1 (eS 1 vt) ((ix a0 a1.toNat).OneOf), eS 2 ePartCount ((ix a0 a1.toNat).Parts)]])] ?_
    refine TriE.ret ?_
    have h := Option.some.inj h
    subst h
    exact DoneS.ret (S' := ⟨[(4, vi y6)], []⟩) (sc [] (by decide) (by kernel_rfl) ObRen.nil rfl rfl) rfl rfl
  have h := cond_f h c7
  refine TriE.skip ?_
  refine TriE.seqK h (fun (_ : Unit) => St.mk [(5, .ptr 0 0 0)] [some (.row 6 [.agg [vt ((ix a0 a1.toNat).Name), vi ((ix a0 a1.toNat).Cents), vi ((ix a0 a1.toNat).Hours), eS 1 vt ((ix a0 a1.toNat).Needs), eS 1 (eS 1 vt) ((ix a0 a1.toNat).OneOf), eS 2 ePartCount ((ix a0 a1.toNat).Parts)]])]) ?_ ?_
  · rintro ⟨⟩ h
    refine sj ?_
    refine rn 2 [(86, eS 2 ePartCount ((ix a0 a1.toNat).Parts))] [some (.row 6 [.agg [vt ((ix a0 a1.toNat).Name), vi ((ix a0 a1.toNat).Cents), vi ((ix a0 a1.toNat).Hours), eS 1 vt ((ix a0 a1.toNat).Needs), eS 1 (eS 1 vt) ((ix a0 a1.toNat).OneOf), eS 2 ePartCount ((ix a0 a1.toNat).Parts)]])] ?_
    obtain ⟨y10, hy10, h⟩ := bind_some h
    refine RegJ.op (Op1.call (y' := vi y10) (obx := []) (oby := []) (ob2 := [some (.row 6 [.agg [vt ((ix a0 a1.toNat).Name), vi ((ix a0 a1.toNat).Cents), vi ((ix a0 a1.toNat).Hours), eS 1 vt ((ix a0 a1.toNat).Needs), eS 1 (eS 1 vt) ((ix a0 a1.toNat).OneOf), eS 2 ePartCount ((ix a0 a1.toNat).Parts)]])]) _ _ (cy (I0 87 (.call 108 [(.t 86), (.c (.p (.int .i64 1000)))]))) rfl (restore_checkCounts_ok n ((ix a0 a1.toNat).Parts) 1000 y10 hy10) [] (by kernel_rfl) (.cons rfl (.cons rfl (.cons rfl .nil))) (by kernel_rfl) (by kernel_rfl) ObsRen.nil (by kernel_rfl) ObsRen.nil (by kernel_rfl)) ?_
    refine jq 1 [(4, vi y10)] [some (.row 6 [.agg [vt ((ix a0 a1.toNat).Name), vi ((ix a0 a1.toNat).Cents), vi ((ix a0 a1.toNat).Hours), eS 1 vt ((ix a0 a1.toNat).Needs), eS 1 (eS 1 vt) ((ix a0 a1.toNat).OneOf), eS 2 ePartCount ((ix a0 a1.toNat).Parts)]])] ?_
    refine TriE.ret ?_
    have h := Option.some.inj h
    subst h
    exact DoneS.ret (S' := ⟨[(4, vi y10)], []⟩) (sc [] (by decide) (by kernel_rfl) ObRen.nil rfl rfl) rfl rfl
  intro k1 h
  refine sj ?_
  refine rn 2 [(0, eS 6 eTask a0), (5, .ptr 0 0 0), (69, eS 1 (eS 1 vt) ((ix a0 a1.toNat).OneOf))] [some (.row 6 [.agg [vt ((ix a0 a1.toNat).Name), vi ((ix a0 a1.toNat).Cents), vi ((ix a0 a1.toNat).Hours), eS 1 vt ((ix a0 a1.toNat).Needs), eS 1 (eS 1 vt) ((ix a0 a1.toNat).OneOf), eS 2 ePartCount ((ix a0 a1.toNat).Parts)]])] ?_
  refine jv (vi ((((ix a0 a1.toNat).OneOf).length : Nat) : Int)) (cy (I0 70 (.len 0 (.t 69)))) (ok_len_m rfl) rfl ?_
  refine jq 1 [(0, eS 6 eTask a0), (5, .ptr 0 0 0), (69, eS 1 (eS 1 vt) ((ix a0 a1.toNat).OneOf)), (70, vi ((((ix a0 a1.toNat).OneOf).length : Nat) : Int)), (71, vi 0)] [some (.row 6 [.agg [vt ((ix a0 a1.toNat).Name), vi ((ix a0 a1.toNat).Cents), vi ((ix a0 a1.toNat).Hours), eS 1 vt ((ix a0 a1.toNat).Needs), eS 1 (eS 1 vt) ((ix a0 a1.toNat).OneOf), eS 2 ePartCount ((ix a0 a1.toNat).Parts)]])] ?_
  refine TriE.block ?_
  refine TriE.sees (S' := ⟨[(0, eS 6 eTask a0), (5, .ptr 0 0 0), (69, eS 1 (eS 1 vt) ((ix a0 a1.toNat).OneOf)), (70, vi ((((ix a0 a1.toNat).OneOf).length : Nat) : Int)), (71, vi 0)], [some (.row 6 [.agg [vt ((ix a0 a1.toNat).Name), vi ((ix a0 a1.toNat).Cents), vi ((ix a0 a1.toNat).Hours), eS 1 vt ((ix a0 a1.toNat).Needs), eS 1 (eS 1 vt) ((ix a0 a1.toNat).OneOf), eS 2 ePartCount ((ix a0 a1.toNat).Parts)]])]⟩) sy ?_
  refine TriE.loopN h (fun (v8 : Nat) => St.mk [(0, eS 6 eTask a0), (5, .ptr 0 0 0), (69, eS 1 (eS 1 vt) ((ix a0 a1.toNat).OneOf)), (70, vi ((((ix a0 a1.toNat).OneOf).length : Nat) : Int)), (71, vi v8)] [some (.row 6 [.agg [vt ((ix a0 a1.toNat).Name), vi ((ix a0 a1.toNat).Cents), vi ((ix a0 a1.toNat).Hours), eS 1 vt ((ix a0 a1.toNat).Needs), eS 1 (eS 1 vt) ((ix a0 a1.toNat).OneOf), eS 2 ePartCount ((ix a0 a1.toNat).Parts)]])]) rfl ?_
  clear h
  rintro back v8 h
  dsimp only [restore_list_checkTask_L1] at h
  refine sj ?_
  refine jv (vb (decide (v8 < (((ix a0 a1.toNat).OneOf).length)))) (cy (I0 72 (.bin .lss false (.t 71) (.t 70)))) (n_lss (i := v8) (j := ((ix a0 a1.toNat).OneOf).length) rfl rfl) rfl ?_
  refine jp [(0, eS 6 eTask a0), (5, .ptr 0 0 0), (69, eS 1 (eS 1 vt) ((ix a0 a1.toNat).OneOf)), (70, vi ((((ix a0 a1.toNat).OneOf).length : Nat) : Int)), (71, vi v8), (72, vb (decide (v8 < (((ix a0 a1.toNat).OneOf).length))))] ?_
  refine TriE.seq ?_
  refine TriE.cond (b := decide (v8 < (((ix a0 a1.toNat).OneOf).length))) rfl (fun c8 => ?_) (fun c8 => ?_)
  · have h := cond_t h c8
    refine TriE.skip ?_
    refine TriE.seq ?_
    refine TriE.block ?_
    refine sj ?_
    obtain ⟨c9, h⟩ := chk_some h
    refine jv (.fptr 1 (List.map (eS 1 vt) ((ix a0 a1.toNat).OneOf)) v8 0) (cy (I0 73 (.iaddr 1 (.t 69) (.t 71)))) (ok_iaddr_m (j := v8) rfl rfl rfl c9) rfl ?_
    refine jv (eS 1 vt (ix ((ix a0 a1.toNat).OneOf) v8)) (cy (I0 74 (.load false 1 (.t 73)))) (ok_load_fm (v := eS 1 vt (ix ((ix a0 a1.toNat).OneOf) v8)) rfl c9 rfl) rfl ?_
    refine jq 1 [(0, eS 6 eTask a0), (5, .ptr 0 0 0), (69, eS 1 (eS 1 vt) ((ix a0 a1.toNat).OneOf)), (70, vi ((((ix a0 a1.toNat).OneOf).length : Nat) : Int)), (71, vi v8), (9, eS 1 vt (ix ((ix a0 a1.toNat).OneOf) v8))] [some (.row 6 [.agg [vt ((ix a0 a1.toNat).Name), vi ((ix a0 a1.toNat).Cents), vi ((ix a0 a1.toNat).Hours), eS 1 vt ((ix a0 a1.toNat).Needs), eS 1 (eS 1 vt) ((ix a0 a1.toNat).OneOf), eS 2 ePartCount ((ix a0 a1.toNat).Parts)]])] ?_
    refine TriE.seq ?_
    refine sj ?_
    refine rn 1 [(0, eS 6 eTask a0), (5, .ptr 0 0 0), (69, eS 1 (eS 1 vt) ((ix a0 a1.toNat).OneOf)), (70, vi ((((ix a0 a1.toNat).OneOf).length : Nat) : Int)), (71, vi v8), (9, eS 1 vt (ix ((ix a0 a1.toNat).OneOf) v8)), (75, eS 1 vt (ix ((ix a0 a1.toNat).OneOf) v8))] [some (.row 6 [.agg [vt ((ix a0 a1.toNat).Name), vi ((ix a0 a1.toNat).Cents), vi ((ix a0 a1.toNat).Hours), eS 1 vt ((ix a0 a1.toNat).Needs), eS 1 (eS 1 vt) ((ix a0 a1.toNat).OneOf), eS 2 ePartCount ((ix a0 a1.toNat).Parts)]])] ?_
    refine jv (vi (((ix ((ix a0 a1.toNat).OneOf) v8).length : Nat) : Int)) (cy (I0 76 (.len 0 (.t 75)))) (ok_len_m rfl) rfl ?_
    refine jv (vb (decide (((ix ((ix a0 a1.toNat).OneOf) v8).length) = 0))) (cy (I0 77 (.bin .eql false (.t 76) (.c (.p (.int .i64 0)))))) (n_eql (i := (ix ((ix a0 a1.toNat).OneOf) v8).length) (j := 0) rfl rfl) rfl ?_
    refine jp [(0, eS 6 eTask a0), (5, .ptr 0 0 0), (69, eS 1 (eS 1 vt) ((ix a0 a1.toNat).OneOf)), (70, vi ((((ix a0 a1.toNat).OneOf).length : Nat) : Int)), (71, vi v8), (9, eS 1 vt (ix ((ix a0 a1.toNat).OneOf) v8)), (77, vb (decide (((ix ((ix a0 a1.toNat).OneOf) v8).length) = 0)))] ?_
    refine TriE.cond (b := decide (((ix ((ix a0 a1.toNat).OneOf) v8).length) = 0)) rfl (fun c10 => ?_) (fun c10 => ?_)
    · have h := cond_t h c10
      refine sr [(4, vi 10)] [some (.row 6 [.agg [vt ((ix a0 a1.toNat).Name), vi ((ix a0 a1.toNat).Cents), vi ((ix a0 a1.toNat).Hours), eS 1 vt ((ix a0 a1.toNat).Needs), eS 1 (eS 1 vt) ((ix a0 a1.toNat).OneOf), eS 2 ePartCount ((ix a0 a1.toNat).Parts)]])] ?_
      refine TriE.ret ?_
      have h := Option.some.inj h
      subst h
      exact DoneS.ret (S' := ⟨[(4, vi 10)], []⟩) (sc [] (by decide) (by kernel_rfl) ObRen.nil rfl rfl) rfl rfl
    have h := cond_f h c10
    refine TriE.skip ?_
    refine sj ?_
    refine rn 2 [(0, eS 6 eTask a0), (5, .ptr 0 0 0), (69, eS 1 (eS 1 vt) ((ix a0 a1.toNat).OneOf)), (70, vi ((((ix a0 a1.toNat).OneOf).length : Nat) : Int)), (71, vi v8), (78, eS 6 eTask a0), (79, eS 1 vt (ix ((ix a0 a1.toNat).OneOf) v8))] [some (.row 6 [.agg [vt ((ix a0 a1.toNat).Name), vi ((ix a0 a1.toNat).Cents), vi ((ix a0 a1.toNat).Hours), eS 1 vt ((ix a0 a1.toNat).Needs), eS 1 (eS 1 vt) ((ix a0 a1.toNat).OneOf), eS 2 ePartCount ((ix a0 a1.toNat).Parts)]])] ?_
    obtain ⟨y9, hy9, h⟩ := bind_some h
    refine RegJ.op (Op1.call (y' := vi y9) (obx := []) (oby := []) (ob2 := [some (.row 6 [.agg [vt ((ix a0 a1.toNat).Name), vi ((ix a0 a1.toNat).Cents), vi ((ix a0 a1.toNat).Hours), eS 1 vt ((ix a0 a1.toNat).Needs), eS 1 (eS 1 vt) ((ix a0 a1.toNat).OneOf), eS 2 ePartCount ((ix a0 a1.toNat).Parts)]])]) _ _ (cy (I0 80 (.call 96 [(.t 78), (.t 79)]))) rfl (restore_list_known_ok n a0 (ix ((ix a0 a1.toNat).OneOf) v8) y9 hy9) [] (by kernel_rfl) (.cons rfl (.cons rfl (.cons rfl .nil))) (by kernel_rfl) (by kernel_rfl) ObsRen.nil (by kernel_rfl) ObsRen.nil (by kernel_rfl)) ?_
    refine jq 1 [(0, eS 6 eTask a0), (5, .ptr 0 0 0), (69, eS 1 (eS 1 vt) ((ix a0 a1.toNat).OneOf)), (70, vi ((((ix a0 a1.toNat).OneOf).length : Nat) : Int)), (71, vi v8), (10, vi y9)] [some (.row 6 [.agg [vt ((ix a0 a1.toNat).Name), vi ((ix a0 a1.toNat).Cents), vi ((ix a0 a1.toNat).Hours), eS 1 vt ((ix a0 a1.toNat).Needs), eS 1 (eS 1 vt) ((ix a0 a1.toNat).OneOf), eS 2 ePartCount ((ix a0 a1.toNat).Parts)]])] ?_
    refine sr [(0, eS 6 eTask a0), (5, .ptr 0 0 0), (69, eS 1 (eS 1 vt) ((ix a0 a1.toNat).OneOf)), (70, vi ((((ix a0 a1.toNat).OneOf).length : Nat) : Int)), (71, vi v8), (10, vi y9), (82, vb (y9 != (0 : Int)))] [some (.row 6 [.agg [vt ((ix a0 a1.toNat).Name), vi ((ix a0 a1.toNat).Cents), vi ((ix a0 a1.toNat).Hours), eS 1 vt ((ix a0 a1.toNat).Needs), eS 1 (eS 1 vt) ((ix a0 a1.toNat).OneOf), eS 2 ePartCount ((ix a0 a1.toNat).Parts)]])] ?_
    refine TriE.cond (b := (y9 != (0 : Int))) rfl (fun c11 => ?_) (fun c11 => ?_)
    · have h := cond_t h c11
      refine sr [(4, vi y9)] [some (.row 6 [.agg [vt ((ix a0 a1.toNat).Name), vi ((ix a0 a1.toNat).Cents), vi ((ix a0 a1.toNat).Hours), eS 1 vt ((ix a0 a1.toNat).Needs), eS 1 (eS 1 vt) ((ix a0 a1.toNat).OneOf), eS 2 ePartCount ((ix a0 a1.toNat).Parts)]])] ?_
      refine TriE.ret ?_
      have h := Option.some.inj h
      subst h
      exact DoneS.ret (S' := ⟨[(4, vi y9)], []⟩) (sc [] (by decide) (by kernel_rfl) ObRen.nil rfl rfl) rfl rfl
    have h := cond_f h c11
    refine TriE.skip ?_
    refine TriE.regJ ?_
    obtain ⟨c12, h⟩ := chk_some h
    refine jv (vi ((v8 + 1 : Nat) : Int)) (cy (I0 84 (.bin .add false (.t 71) (.c (.p (.int .i64 1)))))) (r_addn (i := v8) (j := 1) rfl rfl c12) rfl ?_
    refine jq 1 [(0, eS 6 eTask a0), (5, .ptr 0 0 0), (69, eS 1 (eS 1 vt) ((ix a0 a1.toNat).OneOf)), (70, vi ((((ix a0 a1.toNat).OneOf).length : Nat) : Int)), (71, vi ((v8 + 1 : Nat) : Int))] [some (.row 6 [.agg [vt ((ix a0 a1.toNat).Name), vi ((ix a0 a1.toNat).Cents), vi ((ix a0 a1.toNat).Hours), eS 1 vt ((ix a0 a1.toNat).Needs), eS 1 (eS 1 vt) ((ix a0 a1.toNat).OneOf), eS 2 ePartCount ((ix a0 a1.toNat).Parts)]])] ?_
    exact Vs.intro sy ⟨(v8 + 1), rfl, h⟩
  have h := cond_f h c8
  refine TriE.exit ?_
  exact Vs.intro sy ⟨(), rfl, h⟩
theorem restore_CheckTasks_f1_ok (n : Nat) (a0 : Str) (r : Unit) (h : restore_CheckTasks_f1 n a0 = some r) : FnL Tryz.prog 87 [vt a0] [] (vb true) [] := by
  dsimp only [restore_CheckTasks_f1] at h
  refine FnL.ofS (ts := [2]) Tryz.call87 Tryz.func87 rfl rfl (Nat.le_of_ble_eq_true rfl) (Nat.le_of_ble_eq_true rfl) (fun j h => absurd h (Nat.not_lt_zero j)) ?_
  refine sr [] [] ?_
  refine sr [(2, vb true)] [] ?_
  refine TriE.ret ?_
  have h := Option.some.inj h
  subst h
  exact DoneS.ret (S' := ⟨[(2, vb true)], []⟩) Sees.refl rfl rfl
theorem restore_list_order_f1_ok (n : Nat) (a0 : Str) (r : Bool) (h : restore_list_order_f1 n a0 = some r) : FnL Tryz.prog 153 [vt a0, .ptr 0 0 0, .ptr 1 0 0] [some (.row 1 [.fn (.func 87) [] []]), some (.row 1 [.emp])] (vb r) [some (.row 1 [.fn (.func 87) [] []]), some (.row 1 [.emp])] := by
  dsimp only [restore_list_order_f1] at h
  refine FnL.ofS (ts := [4]) Tryz.call153 Tryz.func153 rfl rfl (Nat.le_of_ble_eq_true rfl) (Nat.le_of_ble_eq_true rfl) (hall_of (.cons rfl (.cons rfl .nil))) ?_
  refine sr [(0, vt a0), (1, .ptr 0 0 0), (2, .ptr 1 0 0)] [some (.row 1 [.fn (.func 87) [] []]), some (.row 1 [.emp])] ?_
  refine sj ?_
  refine rn 2 [(0, vt a0), (2, .ptr 1 0 0), (5, .fn (.func 87) [] []), (6, vt a0)] [some (.row 1 [.fn (.func 87) [] []]), some (.row 1 [.emp])] ?_
  obtain ⟨y1, hy1, h⟩ := bind_some h
  refine RegJ.op (Op1.dyn (y' := vb true) (obx := []) (oby := []) (ob2 := [some (.row 1 [.fn (.func 87) [] []]), some (.row 1 [.emp])]) _ _ _ (cy (I0 7 (.dyn (.t 5) [(.t 6)]))) rfl rfl (restore_CheckTasks_f1_ok n a0 y1 hy1) [] (by kernel_rfl) (.cons rfl (.cons rfl .nil)) (by kernel_rfl) (by kernel_rfl) ObsRen.nil (by kernel_rfl) ObsRen.nil (by kernel_rfl)) ?_
  refine rn 1 [(0, vt a0), (2, .ptr 1 0 0), (8, vb true)] [some (.row 1 [.fn (.func 87) [] []]), some (.row 1 [.emp])] ?_
  refine RegJ.op (Op1.valk (v := .emp) _ _ (cy (IG 9 (.load false 1 (.t 2)) 8 true)) rfl (by kernel_rfl) (fun hg => (.cons rfl .nil))) ?_
  refine RegJ.op (Op1.valk (v := vt a0) _ _ (cy (IG 10 (.mov (.t 0)) 8 true)) rfl (by kernel_rfl) (fun hg => (.cons rfl .nil))) ?_
  obtain ⟨y2, hy2, h⟩ := bind_some h
  refine RegJ.op (Op1.callg (g := true) (y' := vb y2) (obx := []) _ _ (cy (IG 11 (.call 154 [(.t 9), (.t 10)]) 8 true)) rfl (fun hg => FnL.co (.cons .sl (.cons .same .nil)) (slices_Contains_string_ok n ([] : List Str) a0 y2 (gcall_some hy2 hg))) [] (fun hg => by kernel_rfl) (fun hg => (.cons rfl (.cons hg (.cons hg .nil)))) (by kernel_rfl) (by kernel_rfl) ObsRen.nil (by kernel_rfl) (by kernel_rfl)) ?_
  refine RegJ.op (Op1.valk (v := vb (!y2)) _ _ (cy (IG 12 (.un .not (.t 11)) 8 true)) rfl (by kernel_rfl) (fun hg => (.cons hg .nil))) ?_
  refine RegJ.op (Op1.and (cy (I0 13 (.pick (.t 8) (.t 12) (.c (.p (.bool false)))))) rfl rfl (by first | exact hokA1 | exact hokA0 | simp)) ?_
  refine jq 1 [(4, vb (true && (!y2)))] [some (.row 1 [.fn (.func 87) [] []]), some (.row 1 [.emp])] ?_
  refine TriE.ret ?_
  have h := Option.some.inj h
  subst h
  exact DoneS.ret (S' := ⟨[(4, vb (true && (!y2)))], [some (.row 1 [.fn (.func 87) [] []]), some (.row 1 [.emp])]⟩) Sees.refl rfl rfl
theorem slices_Grow_string_ok (n : Nat) (a0 : Int) (r : (List Str)) (h : slices_Grow_string n a0 = some r) : FnL Tryz.prog 216 [.emp, vi a0] [] (.own 0 0 r.length) [some (.row 1 (List.map vt r))] := by
  dsimp only [slices_Grow_string] at h
  refine FnL.ofS (ts := [4]) Tryz.call216 Tryz.func216 rfl rfl (Nat.le_of_ble_eq_true rfl) (Nat.le_of_ble_eq_true rfl) (fun j h => absurd h (Nat.not_lt_zero j)) ?_
  refine sr [(0, .emp), (1, vi a0)] [] ?_
  refine TriE.seq ?_
  refine sr [(0, .emp), (1, vi a0), (6, vb (decide (a0 < (0 : Int))))] [] ?_
  refine TriE.cond (b := decide (a0 < (0 : Int))) rfl (fun c1 => ?_) (fun c1 => ?_)
  · have h := cond_t h c1
    refine TriE.regJ ?_
    cases h
  have h := cond_f h c1
  refine TriE.skip ?_
  refine TriE.seqK h (fun (v1 : (List Str)) => St.mk [(0, .own 0 0 v1.length)] [some (.row 1 (List.map vt v1))]) ?_ ?_
  · rintro v1 h
    refine sr [(4, .own 0 0 v1.length)] [some (.row 1 (List.map vt v1))] ?_
    refine TriE.ret ?_
    have h := Option.some.inj h
    subst h
    exact DoneS.ret (S' := ⟨[(4, .own 0 0 v1.length)], [some (.row 1 (List.map vt v1))]⟩) Sees.refl rfl rfl
  intro k1 h
  refine sj ?_
  refine rn 2 [(0, .emp), (8, vi a0), (9, .emp)] [] ?_
  refine RegJ.capE (d := some 10) (x := .t 9) (by kernel_rfl) rfl rfl ?_
  refine rn 2 [(0, .emp), (8, vi a0), (10, vi 0), (12, vi 0)] [] ?_
  obtain ⟨c2, h⟩ := chk_some h
  refine jv (vi (0 - 0)) (cy (I0 13 (.bin .sub false (.t 10) (.t 12)))) (r_sub rfl rfl c2) rfl ?_
  obtain ⟨c3, h⟩ := chk_some h
  refine jv (vi (a0 - (0 - 0))) (cy (I0 14 (.bin .sub false (.t 8) (.t 13)))) (r_sub rfl rfl c3) rfl ?_
  refine jq 1 [(0, .emp), (1, vi (a0 - (0 - 0)))] [] ?_
  refine sr [(0, .emp), (1, vi (a0 - (0 - 0))), (16, vb (decide ((0 : Int) < (a0 - (0 - 0)))))] [] ?_
  refine TriE.cond (b := decide ((0 : Int) < (a0 - (0 - 0)))) rfl (fun c4 => ?_) (fun c4 => ?_)
  · have h := cond_t h c4
    refine TriE.regJ ?_
    refine rn 2 [(0, .emp), (1, vi (a0 - (0 - 0))), (17, .emp), (18, .emp)] [] ?_
    refine RegJ.capE (d := some 19) (x := .t 18) (by kernel_rfl) rfl rfl ?_
    refine rn 2 [(0, .emp), (20, .emp), (21, vi (a0 - (0 - 0)))] [] ?_
    obtain ⟨c5, h⟩ := chk_some h
    obtain ⟨c6, h⟩ := chk_some h
    obtain ⟨c7, h⟩ := chk_some h
    refine RegJ.appZ (d := some 22) (kk := 1) (b := 16) (n := (a0 - (0 - 0)).toNat) (x := .t 20) (y := .t 21) (by kernel_rfl) rfl rfl rfl rfl (nn_to c5) c6 c7 ?_
    refine rn 2 [(22, .own 0 0 ((a0 - (0 - 0)).toNat)), (24, vi 0)] [some (.row 1 (List.map vt ([] : List Str)))] ?_
    obtain ⟨c8, h⟩ := chk_some h
    refine jv (.own 0 0 (([] : List Str).length)) (cy (I0 25 (.slc 1 (.t 22) none (some (.t 24)) none))) (ok_slco_hi (j := 0) rfl rfl rfl rfl c8) rfl ?_
    refine jq 1 [(0, .own 0 0 (([] : List Str).length))] [some (.row 1 (List.map vt ([] : List Str)))] ?_
    exact Vs.intro sy ⟨([] : List Str), rfl, h⟩
  have h := cond_f h c4
  refine TriE.skip ?_
  exact Vs.intro (Sees.trans (Sees.co (fr' := [(0, .own 0 0 0)]) (ob' := []) (.cons .own .nil) ObCo.nil 1) sy) ⟨([] : List Str), rfl, h⟩
theorem slices_Concat_string_ok (n : Nat) (a0 : List (List Str)) (r : (List Str)) (h : slices_Concat_string n a0 = some r) : FnL Tryz.prog 187 [.own 0 0 a0.length] [some (.row 1 (List.map (eS 1 vt) a0))] (eS 1 vt r) [some (.row 1 (List.map (eS 1 vt) a0))] := by
  dsimp only [slices_Concat_string] at h
  refine FnL.ofS (ts := [2]) Tryz.call187 Tryz.func187 rfl rfl (Nat.le_of_ble_eq_true rfl) (Nat.le_of_ble_eq_true rfl) (hall_of (.cons rfl .nil)) ?_
  refine sr [(0, .own 0 0 a0.length)] [some (.row 1 (List.map (eS 1 vt) a0))] ?_
  refine sr [(0, .own 0 0 a0.length), (3, vi 0)] [some (.row 1 (List.map (eS 1 vt) a0))] ?_
  refine TriE.seqK h (fun (v3 : Nat) => St.mk [(0, .own 0 0 a0.length), (3, vi v3)] [some (.row 1 (List.map (eS 1 vt) a0))]) ?_ ?_
  · rintro v3 h
    refine sj ?_
    refine rn 1 [(0, .own 0 0 a0.length), (23, vi v3)] [some (.row 1 (List.map (eS 1 vt) a0))] ?_
    obtain ⟨y4, hy4, h⟩ := bind_some h
    refine RegJ.op (Op1.call (y' := .own 1 0 y4.length) (obx := []) (oby := [some (.row 1 (List.map vt y4))]) (ob2 := [some (.row 1 (List.map (eS 1 vt) a0)), some (.row 1 (List.map vt y4))]) _ _ (cy (I0 24 (.call 216 [(.c .emp), (.t 23)]))) rfl (slices_Grow_string_ok n (v3 : Int) y4 hy4) [] (by kernel_rfl) (.cons rfl (.cons rfl (.cons rfl .nil))) (by kernel_rfl) (by kernel_rfl) ObsRen.nil (by kernel_rfl) (.same (row_ren vt_frz _ _ _) .nil) (by kernel_rfl)) ?_
    refine jq 1 [(0, .own 0 0 a0.length), (6, .own 1 0 y4.length)] [some (.row 1 (List.map (eS 1 vt) a0)), some (.row 1 (List.map vt y4))] ?_
    refine TriE.seqK h (fun (v7 : (List Str)) => St.mk [(6, .own 1 0 v7.length)] [some (.row 1 (List.map (eS 1 vt) a0)), some (.row 1 (List.map vt v7))]) ?_ ?_
    · rintro v7 h
      refine sr [(2, .own 1 0 v7.length)] [some (.row 1 (List.map (eS 1 vt) a0)), some (.row 1 (List.map vt v7))] ?_
      refine TriE.ret ?_
      have h := Option.some.inj h
      subst h
      exact DoneS.ret (S' := ⟨[(2, eS 1 vt v7)], [some (.row 1 (List.map (eS 1 vt) a0))]⟩) (Sees.trans (Sees.freeze 1 (fr' := [(2, eS 1 vt v7)]) (ob' := [some (.row 1 (List.map (eS 1 vt) a0)), none]) rfl (frz_row vt_frzE _) (.cons (frz_full rfl) .nil) rfl) (sc [0] (by decide) (by kernel_rfl) (obRen_row (eS_frz 1 vt) rfl .nil) rfl rfl)) rfl rfl
    intro k2 h
    refine sr [(6, .own 1 0 y4.length), (25, .own 0 0 a0.length), (26, vi (a0.length : Int)), (27, vi 0)] [some (.row 1 (List.map (eS 1 vt) a0)), some (.row 1 (List.map vt y4))] ?_
    refine TriE.block ?_
    refine TriE.sees (S' := ⟨[(6, .own 1 0 y4.length), (25, .own 0 0 a0.length), (26, vi (a0.length : Int)), (27, vi 0)], [some (.row 1 (List.map (eS 1 vt) a0)), some (.row 1 (List.map vt y4))]⟩) sy ?_
    refine TriE.loopN h (fun (t : Nat × (List Str)) => match t with | (v5, v6) => St.mk [(6, .own 1 0 v6.length), (25, .own 0 0 a0.length), (26, vi (a0.length : Int)), (27, vi v5)] [some (.row 1 (List.map (eS 1 vt) a0)), some (.row 1 (List.map vt v6))]) rfl ?_
    clear h
    rintro back ⟨v5, v6⟩ h
    dsimp only [slices_Concat_string_L2] at h
    refine sj ?_
    refine jv (vb (decide (v5 < a0.length))) (cy (I0 28 (.bin .lss false (.t 27) (.t 26)))) (n_lss (i := v5) (j := a0.length) rfl rfl) rfl ?_
    refine jp [(6, .own 1 0 v6.length), (25, .own 0 0 a0.length), (26, vi (a0.length : Int)), (27, vi v5), (28, vb (decide (v5 < a0.length)))] ?_
    refine TriE.seq ?_
    refine TriE.cond (b := decide (v5 < a0.length)) rfl (fun c5 => ?_) (fun c5 => ?_)
    · have h := cond_t h c5
      refine TriE.skip ?_
      refine TriE.seq ?_
      refine TriE.block ?_
      refine sj ?_
      refine jv (.ptr 0 v5 0) (cy (I0 29 (.iaddr 1 (.t 25) (.t 27)))) (ok_iaddr_o0 (j := v5) rfl rfl rfl rfl c5) rfl ?_
      refine jv (eS 1 vt (ix a0 v5)) (cy (I0 30 (.load false 1 (.t 29)))) (ok_load_pm (l := a0) (e := (eS 1 vt)) (v := eS 1 vt (ix a0 v5)) rfl rfl c5 rfl) rfl ?_
      refine jq 1 [(6, .own 1 0 v6.length), (25, .own 0 0 a0.length), (26, vi (a0.length : Int)), (27, vi v5), (8, eS 1 vt (ix a0 v5))] [some (.row 1 (List.map (eS 1 vt) a0)), some (.row 1 (List.map vt v6))] ?_
      refine TriE.regJ ?_
      refine rn 2 [(25, .own 0 0 a0.length), (26, vi (a0.length : Int)), (27, vi v5), (31, .own 1 0 v6.length), (32, eS 1 vt (ix a0 v5))] [some (.row 1 (List.map (eS 1 vt) a0)), some (.row 1 (List.map vt v6))] ?_
      obtain ⟨c6, h⟩ := chk_some h
      refine je (.own 2 0 ((v6 ++ (ix a0 v5)).length)) [some (.row 1 (List.map (eS 1 vt) a0)), none, some (.row 1 (List.map vt (v6 ++ (ix a0 v5))))] (cy (I0 33 (.app 1 16 (.t 31) (.t 32)))) (ok_app_own (l := v6) (l2 := (ix a0 v5)) (e := vt) (u := eS 1 vt (ix a0 v5)) rfl rfl rfl rfl els_sl c6) rfl rfl rfl ?_
      refine jq 1 [(25, .own 0 0 a0.length), (26, vi (a0.length : Int)), (27, vi v5), (6, .own 2 0 ((v6 ++ (ix a0 v5)).length))] [some (.row 1 (List.map (eS 1 vt) a0)), none, some (.row 1 (List.map vt (v6 ++ (ix a0 v5))))] ?_
      refine TriE.regJ ?_
      obtain ⟨c7, h⟩ := chk_some h
      refine jv (vi ((v5 + 1 : Nat) : Int)) (cy (I0 34 (.bin .add false (.t 27) (.c (.p (.int .i64 1)))))) (r_addn (i := v5) (j := 1) rfl rfl c7) rfl ?_
      refine jq 1 [(25, .own 0 0 a0.length), (26, vi (a0.length : Int)), (6, .own 2 0 ((v6 ++ (ix a0 v5)).length)), (27, vi ((v5 + 1 : Nat) : Int))] [some (.row 1 (List.map (eS 1 vt) a0)), none, some (.row 1 (List.map vt (v6 ++ (ix a0 v5))))] ?_
      exact Vs.intro (sc [0, 2] (by decide) (by kernel_rfl) (obRen_row (eS_frz 1 vt) rfl (obRen_row vt_frz rfl .nil)) rfl rfl) ⟨(v5 + 1, (v6 ++ (ix a0 v5))), rfl, h⟩
    have h := cond_f h c5
    refine TriE.exit ?_
    exact Vs.intro sy ⟨v6, rfl, h⟩
  intro k1 h
  refine sr [(0, .own 0 0 a0.length), (3, vi 0), (9, .own 0 0 a0.length), (10, vi (a0.length : Int)), (11, vi 0)] [some (.row 1 (List.map (eS 1 vt) a0))] ?_
  refine TriE.block ?_
  refine TriE.sees (S' := ⟨[(0, .own 0 0 a0.length), (3, vi 0), (9, .own 0 0 a0.length), (10, vi (a0.length : Int)), (11, vi 0)], [some (.row 1 (List.map (eS 1 vt) a0))]⟩) sy ?_
  refine TriE.loopN h (fun (t : Nat × Nat) => match t with | (v1, v2) => St.mk [(0, .own 0 0 a0.length), (3, vi v1), (9, .own 0 0 a0.length), (10, vi (a0.length : Int)), (11, vi v2)] [some (.row 1 (List.map (eS 1 vt) a0))]) rfl ?_
  clear h
  rintro back ⟨v1, v2⟩ h
  dsimp only [slices_Concat_string_L1] at h
  refine sj ?_
  refine jv (vb (decide (v2 < a0.length))) (cy (I0 12 (.bin .lss false (.t 11) (.t 10)))) (n_lss (i := v2) (j := a0.length) rfl rfl) rfl ?_
  refine jp [(0, .own 0 0 a0.length), (3, vi v1), (9, .own 0 0 a0.length), (10, vi (a0.length : Int)), (11, vi v2), (12, vb (decide (v2 < a0.length)))] ?_
  refine TriE.seq ?_
  refine TriE.cond (b := decide (v2 < a0.length)) rfl (fun c1 => ?_) (fun c1 => ?_)
  · have h := cond_t h c1
    refine TriE.skip ?_
    refine TriE.seq ?_
    refine TriE.block ?_
    refine sj ?_
    refine jv (.ptr 0 v2 0) (cy (I0 13 (.iaddr 1 (.t 9) (.t 11)))) (ok_iaddr_o0 (j := v2) rfl rfl rfl rfl c1) rfl ?_
    refine jv (eS 1 vt (ix a0 v2)) (cy (I0 14 (.load false 1 (.t 13)))) (ok_load_pm (l := a0) (e := (eS 1 vt)) (v := eS 1 vt (ix a0 v2)) rfl rfl c1 rfl) rfl ?_
    refine jq 1 [(0, .own 0 0 a0.length), (3, vi v1), (9, .own 0 0 a0.length), (10, vi (a0.length : Int)), (11, vi v2), (5, eS 1 vt (ix a0 v2))] [some (.row 1 (List.map (eS 1 vt) a0))] ?_
    refine sj ?_
    refine rn 2 [(0, .own 0 0 a0.length), (9, .own 0 0 a0.length), (10, vi (a0.length : Int)), (11, vi v2), (15, vi v1), (16, eS 1 vt (ix a0 v2))] [some (.row 1 (List.map (eS 1 vt) a0))] ?_
    refine jv (vi (((ix a0 v2).length : Nat) : Int)) (cy (I0 17 (.len 0 (.t 16)))) (ok_len_m rfl) rfl ?_
    obtain ⟨c2, h⟩ := chk_some h
    refine jv (vi ((v1 + ((ix a0 v2).length) : Nat) : Int)) (cy (I0 18 (.bin .add false (.t 15) (.t 17)))) (r_addn (i := v1) (j := (ix a0 v2).length) rfl rfl c2) rfl ?_
    refine jq 1 [(0, .own 0 0 a0.length), (9, .own 0 0 a0.length), (10, vi (a0.length : Int)), (11, vi v2), (3, vi ((v1 + ((ix a0 v2).length) : Nat) : Int))] [some (.row 1 (List.map (eS 1 vt) a0))] ?_
    refine sj ?_
    refine rn 1 [(0, .own 0 0 a0.length), (9, .own 0 0 a0.length), (10, vi (a0.length : Int)), (11, vi v2), (3, vi ((v1 + ((ix a0 v2).length) : Nat) : Int)), (19, vi ((v1 + ((ix a0 v2).length) : Nat) : Int))] [some (.row 1 (List.map (eS 1 vt) a0))] ?_
    refine jv (vb (decide ((v1 + ((ix a0 v2).length)) < 0))) (cy (I0 20 (.bin .lss false (.t 19) (.c (.p (.int .i64 0)))))) (n_lss (i := v1 + ((ix a0 v2).length)) (j := 0) rfl rfl) rfl ?_
    refine jp [(0, .own 0 0 a0.length), (9, .own 0 0 a0.length), (10, vi (a0.length : Int)), (11, vi v2), (3, vi ((v1 + ((ix a0 v2).length) : Nat) : Int)), (20, vb (decide ((v1 + ((ix a0 v2).length)) < 0)))] ?_
    refine TriE.cond (b := decide ((v1 + ((ix a0 v2).length)) < 0)) rfl (fun c3 => ?_) (fun c3 => ?_)
    · have h := cond_t h c3
      refine TriE.regJ ?_
      cases h
    have h := cond_f h c3
    refine TriE.skip ?_
    refine TriE.regJ ?_
    obtain ⟨c4, h⟩ := chk_some h
    refine jv (vi ((v2 + 1 : Nat) : Int)) (cy (I0 22 (.bin .add false (.t 11) (.c (.p (.int .i64 1)))))) (r_addn (i := v2) (j := 1) rfl rfl c4) rfl ?_
    refine jq 1 [(0, .own 0 0 a0.length), (9, .own 0 0 a0.length), (10, vi (a0.length : Int)), (3, vi ((v1 + ((ix a0 v2).length) : Nat) : Int)), (11, vi ((v2 + 1 : Nat) : Int))] [some (.row 1 (List.map (eS 1 vt) a0))] ?_
    exact Vs.intro sy ⟨(v1 + ((ix a0 v2).length), v2 + 1), rfl, h⟩
  have h := cond_f h c1
  refine TriE.exit ?_
  exact Vs.intro sy ⟨v1, rfl, h⟩
theorem restore_leads_ok (n : Nat) (a0 : Task) (r : (List Str)) (h : restore_leads n a0 = some r) : FnL Tryz.prog 146 [.agg [vt a0.Name, vi a0.Cents, vi a0.Hours, eS 1 vt a0.Needs, eS 1 (eS 1 vt) a0.OneOf, eS 2 ePartCount a0.Parts]] [] (eS 1 vt r) [] := by
  dsimp only [restore_leads] at h
  refine FnL.ofS (ts := [2]) Tryz.call146 Tryz.func146 rfl rfl (Nat.le_of_ble_eq_true rfl) (Nat.le_of_ble_eq_true rfl) (fun j h => absurd h (Nat.not_lt_zero j)) ?_
  refine sr [(1, .ptr 0 0 0)] [some (.row 6 [.agg [vt a0.Name, vi a0.Cents, vi a0.Hours, eS 1 vt a0.Needs, eS 1 (eS 1 vt) a0.OneOf, eS 2 ePartCount a0.Parts]])] ?_
  refine sj ?_
  refine rn 5 [(5, .own 1 0 1), (7, eS 1 (eS 1 vt) a0.OneOf)] [some (.row 6 [.agg [vt a0.Name, vi a0.Cents, vi a0.Hours, eS 1 vt a0.Needs, eS 1 (eS 1 vt) a0.OneOf, eS 2 ePartCount a0.Parts]]), some (.row 1 [eS 1 vt a0.Needs])] ?_
  obtain ⟨c1, h⟩ := chk_some h
  refine je (.own 2 0 ((([a0.Needs] : List (List Str)) ++ a0.OneOf).length)) [some (.row 6 [.agg [vt a0.Name, vi a0.Cents, vi a0.Hours, eS 1 vt a0.Needs, eS 1 (eS 1 vt) a0.OneOf, eS 2 ePartCount a0.Parts]]), none, some (.row 1 (List.map (eS 1 vt) (([a0.Needs] : List (List Str)) ++ a0.OneOf)))] (cy (I0 8 (.app 1 24 (.t 5) (.t 7)))) (ok_app_own (l := ([a0.Needs] : List (List Str))) (l2 := a0.OneOf) (e := (eS 1 vt)) (u := eS 1 (eS 1 vt) a0.OneOf) rfl rfl rfl rfl els_sl c1) rfl rfl rfl ?_
  obtain ⟨y1, hy1, h⟩ := bind_some h
  refine RegJ.op (Op1.call (y' := eS 1 vt y1) (obx := [some (.row 1 (List.map (eS 1 vt) (([a0.Needs] : List (List Str)) ++ a0.OneOf)))]) (oby := [some (.row 1 (List.map (eS 1 vt) (([a0.Needs] : List (List Str)) ++ a0.OneOf)))]) (ob2 := [some (.row 6 [.agg [vt a0.Name, vi a0.Cents, vi a0.Hours, eS 1 vt a0.Needs, eS 1 (eS 1 vt) a0.OneOf, eS 2 ePartCount a0.Parts]]), none, some (.row 1 (List.map (eS 1 vt) (([a0.Needs] : List (List Str)) ++ a0.OneOf)))]) _ _ (cy (I0 9 (.call 187 [(.t 8)]))) rfl (slices_Concat_string_ok n (([a0.Needs] : List (List Str)) ++ a0.OneOf) y1 hy1) [2] (by kernel_rfl) (.cons rfl (.cons rfl .nil)) (by kernel_rfl) (by kernel_rfl) (.same (row_ren (eS_frz 1 vt) _ _ _) .nil) (by kernel_rfl) (.same (row_ren (eS_frz 1 vt) _ _ _) .nil) (by kernel_rfl)) ?_
  refine jq 1 [(2, eS 1 vt y1)] [some (.row 6 [.agg [vt a0.Name, vi a0.Cents, vi a0.Hours, eS 1 vt a0.Needs, eS 1 (eS 1 vt) a0.OneOf, eS 2 ePartCount a0.Parts]]), none, some (.row 1 (List.map (eS 1 vt) (([a0.Needs] : List (List Str)) ++ a0.OneOf)))] ?_
  refine TriE.ret ?_
  have h := Option.some.inj h
  subst h
  exact DoneS.ret (S' := ⟨[(2, eS 1 vt y1)], []⟩) (sc [] (by decide) (by kernel_rfl) ObRen.nil rfl rfl) rfl rfl
theorem slices_IndexFunc_string_2_ok (n : Nat) (a0 : List Str) (r : Int) (h : slices_IndexFunc_string_2 n a0 = some r) : FnL Tryz.prog 170 [eS 1 vt a0, .fn (.func 153) [] [.ptr 0 0 0, .ptr 1 0 0]] [some (.row 1 [.fn (.func 87) [] []]), some (.row 1 [.emp])] (vi r) [some (.row 1 [.fn (.func 87) [] []]), some (.row 1 [.emp])] := by
  dsimp only [slices_IndexFunc_string_2] at h
  refine FnL.ofS (ts := [4]) Tryz.call170 Tryz.func170 rfl rfl (Nat.le_of_ble_eq_true rfl) (Nat.le_of_ble_eq_true rfl) (hall_of (.cons rfl (.cons rfl .nil))) ?_
  refine sr [(0, eS 1 vt a0), (1, .fn (.func 153) [] [.ptr 0 0 0, .ptr 1 0 0])] [some (.row 1 [.fn (.func 87) [] []]), some (.row 1 [.emp])] ?_
  refine TriE.seqK h (fun (_ : Unit) => St.mk [] [some (.row 1 [.fn (.func 87) [] []]), some (.row 1 [.emp])]) ?_ ?_
  · rintro ⟨⟩ h
    refine sr [(4, vi (-1))] [some (.row 1 [.fn (.func 87) [] []]), some (.row 1 [.emp])] ?_
    refine TriE.ret ?_
    have h := Option.some.inj h
    subst h
    exact DoneS.ret (S' := ⟨[(4, vi (-1))], [some (.row 1 [.fn (.func 87) [] []]), some (.row 1 [.emp])]⟩) Sees.refl rfl rfl
  intro k1 h
  refine sj ?_
  refine rn 1 [(0, eS 1 vt a0), (1, .fn (.func 153) [] [.ptr 0 0 0, .ptr 1 0 0]), (6, eS 1 vt a0)] [some (.row 1 [.fn (.func 87) [] []]), some (.row 1 [.emp])] ?_
  refine jv (vi (a0.length : Int)) (cy (I0 7 (.len 0 (.t 6)))) (ok_len_m rfl) rfl ?_
  refine jq 1 [(0, eS 1 vt a0), (1, .fn (.func 153) [] [.ptr 0 0 0, .ptr 1 0 0]), (7, vi (a0.length : Int)), (8, vi 0)] [some (.row 1 [.fn (.func 87) [] []]), some (.row 1 [.emp])] ?_
  refine TriE.block ?_
  refine TriE.sees (S' := ⟨[(0, eS 1 vt a0), (1, .fn (.func 153) [] [.ptr 0 0 0, .ptr 1 0 0]), (7, vi (a0.length : Int)), (8, vi 0)], [some (.row 1 [.fn (.func 87) [] []]), some (.row 1 [.emp])]⟩) sy ?_
  refine TriE.loopN h (fun (v2 : Nat) => St.mk [(0, eS 1 vt a0), (1, .fn (.func 153) [] [.ptr 0 0 0, .ptr 1 0 0]), (7, vi (a0.length : Int)), (8, vi v2)] [some (.row 1 [.fn (.func 87) [] []]), some (.row 1 [.emp])]) rfl ?_
  clear h
  rintro back v2 h
  dsimp only [slices_IndexFunc_string_2_L1] at h
  refine sj ?_
  refine jv (vb (decide (v2 < a0.length))) (cy (I0 9 (.bin .lss false (.t 8) (.t 7)))) (n_lss (i := v2) (j := a0.length) rfl rfl) rfl ?_
  refine jp [(0, eS 1 vt a0), (1, .fn (.func 153) [] [.ptr 0 0 0, .ptr 1 0 0]), (7, vi (a0.length : Int)), (8, vi v2), (9, vb (decide (v2 < a0.length)))] ?_
  refine TriE.seq ?_
  refine TriE.cond (b := decide (v2 < a0.length)) rfl (fun c1 => ?_) (fun c1 => ?_)
  · have h := cond_t h c1
    refine TriE.skip ?_
    refine TriE.seq ?_
    refine TriE.block ?_
    refine sr [(0, eS 1 vt a0), (1, .fn (.func 153) [] [.ptr 0 0 0, .ptr 1 0 0]), (7, vi (a0.length : Int)), (8, vi v2), (5, vi v2)] [some (.row 1 [.fn (.func 87) [] []]), some (.row 1 [.emp])] ?_
    refine sj ?_
    refine rn 3 [(0, eS 1 vt a0), (1, .fn (.func 153) [] [.ptr 0 0 0, .ptr 1 0 0]), (7, vi (a0.length : Int)), (8, vi v2), (5, vi v2), (11, .fn (.func 153) [] [.ptr 0 0 0, .ptr 1 0 0]), (12, eS 1 vt a0), (13, vi v2)] [some (.row 1 [.fn (.func 87) [] []]), some (.row 1 [.emp])] ?_
    refine jv (.fptr 1 (List.map vt a0) v2 0) (cy (I0 14 (.iaddr 1 (.t 12) (.t 13)))) (ok_iaddr_m (j := v2) rfl rfl rfl c1) rfl ?_
    refine jv (vt (ix a0 v2)) (cy (I0 15 (.load false 1 (.t 14)))) (ok_load_fm (v := vt (ix a0 v2)) rfl c1 rfl) rfl ?_
    obtain ⟨y3, hy3, h⟩ := bind_some h
    refine RegJ.op (Op1.dyn (y' := vb y3) (obx := [some (.row 1 [.fn (.func 87) [] []]), some (.row 1 [.emp])]) (oby := [some (.row 1 [.fn (.func 87) [] []]), some (.row 1 [.emp])]) (ob2 := [some (.row 1 [.fn (.func 87) [] []]), some (.row 1 [.emp])]) _ _ _ (cy (I0 16 (.dyn (.t 11) [(.t 15)]))) rfl rfl (restore_list_order_f1_ok n (ix a0 v2) y3 hy3) [0, 1] (by kernel_rfl) (.cons rfl (.cons rfl .nil)) (by kernel_rfl) (by kernel_rfl) (.cons rfl (.cons rfl .nil)) (by kernel_rfl) (.cons rfl (.cons rfl .nil)) (by kernel_rfl)) ?_
    refine jp [(0, eS 1 vt a0), (1, .fn (.func 153) [] [.ptr 0 0 0, .ptr 1 0 0]), (7, vi (a0.length : Int)), (8, vi v2), (5, vi v2), (16, vb y3)] ?_
    refine TriE.cond (b := y3) rfl (fun c2 => ?_) (fun c2 => ?_)
    · have h := cond_t h c2
      refine sr [(4, vi v2)] [some (.row 1 [.fn (.func 87) [] []]), some (.row 1 [.emp])] ?_
      refine TriE.ret ?_
      have h := Option.some.inj h
      subst h
      exact DoneS.ret (S' := ⟨[(4, vi v2)], [some (.row 1 [.fn (.func 87) [] []]), some (.row 1 [.emp])]⟩) Sees.refl rfl rfl
    have h := cond_f h c2
    refine TriE.skip ?_
    refine TriE.regJ ?_
    obtain ⟨c3, h⟩ := chk_some h
    refine jv (vi ((v2 + 1 : Nat) : Int)) (cy (I0 18 (.bin .add false (.t 8) (.c (.p (.int .i64 1)))))) (r_addn (i := v2) (j := 1) rfl rfl c3) rfl ?_
    refine jq 1 [(0, eS 1 vt a0), (1, .fn (.func 153) [] [.ptr 0 0 0, .ptr 1 0 0]), (7, vi (a0.length : Int)), (8, vi ((v2 + 1 : Nat) : Int))] [some (.row 1 [.fn (.func 87) [] []]), some (.row 1 [.emp])] ?_
    exact Vs.intro sy ⟨(v2 + 1), rfl, h⟩
  have h := cond_f h c1
  refine TriE.exit ?_
  exact Vs.intro sy ⟨(), rfl, h⟩
theorem slices_ContainsFunc_string_2_ok (n : Nat) (a0 : List Str) (r : Bool) (h : slices_ContainsFunc_string_2 n a0 = some r) : FnL Tryz.prog 116 [eS 1 vt a0, .fn (.func 153) [] [.ptr 0 0 0, .ptr 1 0 0]] [some (.row 1 [.fn (.func 87) [] []]), some (.row 1 [.emp])] (vb r) [some (.row 1 [.fn (.func 87) [] []]), some (.row 1 [.emp])] := by
  dsimp only [slices_ContainsFunc_string_2] at h
  refine FnL.ofS (ts := [4]) Tryz.call116 Tryz.func116 rfl rfl (Nat.le_of_ble_eq_true rfl) (Nat.le_of_ble_eq_true rfl) (hall_of (.cons rfl (.cons rfl .nil))) ?_
  refine sr [(0, eS 1 vt a0), (1, .fn (.func 153) [] [.ptr 0 0 0, .ptr 1 0 0])] [some (.row 1 [.fn (.func 87) [] []]), some (.row 1 [.emp])] ?_
  refine sj ?_
  refine rn 2 [(5, eS 1 vt a0), (6, .fn (.func 153) [] [.ptr 0 0 0, .ptr 1 0 0])] [some (.row 1 [.fn (.func 87) [] []]), some (.row 1 [.emp])] ?_
  obtain ⟨y1, hy1, h⟩ := bind_some h
  refine RegJ.op (Op1.call (y' := vi y1) (obx := [some (.row 1 [.fn (.func 87) [] []]), some (.row 1 [.emp])]) (oby := [some (.row 1 [.fn (.func 87) [] []]), some (.row 1 [.emp])]) (ob2 := [some (.row 1 [.fn (.func 87) [] []]), some (.row 1 [.emp])]) _ _ (cy (I0 7 (.call 170 [(.t 5), (.t 6)]))) rfl (slices_IndexFunc_string_2_ok n a0 y1 hy1) [0, 1] (by kernel_rfl) (.cons rfl (.cons rfl (.cons rfl .nil))) (by kernel_rfl) (by kernel_rfl) (.cons rfl (.cons rfl .nil)) (by kernel_rfl) (.cons rfl (.cons rfl .nil)) (by kernel_rfl)) ?_
  refine jq 2 [(4, vb (decide ((0 : Int) ≤ y1)))] [some (.row 1 [.fn (.func 87) [] []]), some (.row 1 [.emp])] ?_
  refine TriE.ret ?_
  have h := Option.some.inj h
  subst h
  exact DoneS.ret (S' := ⟨[(4, vb (decide ((0 : Int) ≤ y1)))], [some (.row 1 [.fn (.func 87) [] []]), some (.row 1 [.emp])]⟩) Sees.refl rfl rfl
theorem restore_list_order_f2_ok (n : Nat) (a0 : Task) (r : Bool) (h : restore_list_order_f2 n a0 = some r) : FnL Tryz.prog 156 [.agg [vt a0.Name, vi a0.Cents, vi a0.Hours, eS 1 vt a0.Needs, eS 1 (eS 1 vt) a0.OneOf, eS 2 ePartCount a0.Parts], .ptr 0 0 0] [some (.row 1 [.fn (.func 153) [] [.ptr 1 0 0, .ptr 2 0 0]]), some (.row 1 [.fn (.func 87) [] []]), some (.row 1 [.emp])] (vb r) [some (.row 1 [.fn (.func 153) [] [.ptr 1 0 0, .ptr 2 0 0]]), some (.row 1 [.fn (.func 87) [] []]), some (.row 1 [.emp])] := by
  dsimp only [restore_list_order_f2] at h
  refine FnL.ofS (ts := [3]) Tryz.call156 Tryz.func156 rfl rfl (Nat.le_of_ble_eq_true rfl) (Nat.le_of_ble_eq_true rfl) (hall_of (.cons rfl (.cons rfl (.cons rfl .nil)))) ?_
  refine sr [(1, .ptr 0 0 0), (2, .ptr 3 0 0)] [some (.row 1 [.fn (.func 153) [] [.ptr 1 0 0, .ptr 2 0 0]]), some (.row 1 [.fn (.func 87) [] []]), some (.row 1 [.emp]), some (.row 6 [.agg [vt a0.Name, vi a0.Cents, vi a0.Hours, eS 1 vt a0.Needs, eS 1 (eS 1 vt) a0.OneOf, eS 2 ePartCount a0.Parts]])] ?_
  refine TriE.seq ?_
  refine TriE.sees (Sees.less (fr' := [(1, .ptr 0 0 0), (2, .ptr 3 0 0)]) (.cons rfl (.cons rfl .nil))) ?_
  refine TriE.draw (by kernel_rfl) ?_
  refine RegD.run 3 [(6, vt a0.Name), (5, .ptr 3 0 0), (4, .fn (.func 153) [] [.ptr 1 0 0, .ptr 2 0 0]), (1, .ptr 0 0 0), (2, .ptr 3 0 0)] [some (.row 1 [.fn (.func 153) [] [.ptr 1 0 0, .ptr 2 0 0]]), some (.row 1 [.fn (.func 87) [] []]), some (.row 1 [.emp]), some (.row 6 [.agg [vt a0.Name, vi a0.Cents, vi a0.Hours, eS 1 vt a0.Needs, eS 1 (eS 1 vt) a0.OneOf, eS 2 ePartCount a0.Parts]]), none, none, none] (by kernel_rfl) ?_
  obtain ⟨y1, hy1, h⟩ := bind_some h
  refine RegD.op (OpD.dyn (y' := vb y1) (obx := [some (.row 1 [.fn (.func 87) [] []]), some (.row 1 [.emp])]) (oby := [some (.row 1 [.fn (.func 87) [] []]), some (.row 1 [.emp])]) (ob2 := [some (.row 1 [.fn (.func 153) [] [.ptr 1 0 0, .ptr 2 0 0]]), some (.row 1 [.fn (.func 87) [] []]), some (.row 1 [.emp]), some (.row 6 [.agg [vt a0.Name, vi a0.Cents, vi a0.Hours, eS 1 vt a0.Needs, eS 1 (eS 1 vt) a0.OneOf, eS 2 ePartCount a0.Parts]]), none, none, none, none]) (tch := []) 0 _ _ _ (cy (I0 7 (.dyn (.t 4) [(.t 6)]))) rfl (restore_list_order_f1_ok n a0.Name y1 hy1) [1, 2] (by kernel_rfl) (.cons rfl (.cons rfl .nil)) (by kernel_rfl) (by kernel_rfl) (.cons rfl (.cons rfl .nil)) (by kernel_rfl) (.cons rfl (.cons rfl .nil)) (by kernel_rfl) rfl (.inr ⟨rfl, rfl⟩)) ?_
  refine RegD.run 1 [(8, vb y1), (7, vb y1), (6, vt a0.Name), (5, .ptr 3 0 0), (4, .fn (.func 153) [] [.ptr 1 0 0, .ptr 2 0 0]), (1, .ptr 0 0 0), (2, .ptr 3 0 0)] [some (.row 1 [.fn (.func 153) [] [.ptr 1 0 0, .ptr 2 0 0]]), some (.row 1 [.fn (.func 87) [] []]), some (.row 1 [.emp]), some (.row 6 [.agg [vt a0.Name, vi a0.Cents, vi a0.Hours, eS 1 vt a0.Needs, eS 1 (eS 1 vt) a0.OneOf, eS 2 ePartCount a0.Parts]]), none, none, none, none, none] (by kernel_rfl) ?_
  refine RegD.op (OpD.valk (g := y1) (v := .agg [vt a0.Name, vi a0.Cents, vi a0.Hours, eS 1 vt a0.Needs, eS 1 (eS 1 vt) a0.OneOf, eS 2 ePartCount a0.Parts]) _ _ (cy (IG 9 (.load true 6 (.t 2)) 8 true)) rfl (by kernel_rfl) (fun hg => (.cons rfl .nil))) ?_
  obtain ⟨y2, hy2, h⟩ := bind_some h
  refine RegD.op (OpD.callg (g := y1) (y' := eS 1 vt y2) (obx := []) _ _ (cy (IG 10 (.call 146 [(.t 9)]) 8 true)) rfl (fun hg => restore_leads_ok n a0 y2 (gcall_some hy2 hg)) [] (fun hg => by kernel_rfl) (fun hg => (.cons rfl (.cons hg .nil))) (by kernel_rfl) (by kernel_rfl) ObsRen.nil (by kernel_rfl) (by kernel_rfl) rfl) ?_
  refine RegD.op (OpD.valk (g := y1) (v := .fn (.func 153) [] [.ptr 1 0 0, .ptr 2 0 0]) _ _ (cy (IG 11 (.load false 1 (.t 1)) 8 true)) rfl (by kernel_rfl) (fun hg => (.cons rfl .nil))) ?_
  obtain ⟨y3, hy3, h⟩ := bind_some h
  refine RegD.op (OpD.callg (g := y1) (y' := vb y3) (obx := [some (.row 1 [.fn (.func 87) [] []]), some (.row 1 [.emp])]) _ _ (cy (IG 12 (.call 116 [(.t 10), (.t 11)]) 8 true)) rfl (fun hg => slices_ContainsFunc_string_2_ok n y2 y3 (gcall_some hy3 hg)) [1, 2] (fun hg => by kernel_rfl) (fun hg => (.cons rfl (.cons hg (.cons hg .nil)))) (by kernel_rfl) (by kernel_rfl) (.cons rfl (.cons rfl .nil)) (by kernel_rfl) (by kernel_rfl) rfl) ?_
  refine RegD.op (OpD.valk (g := y1) (v := vb (!y3)) _ _ (cy (IG 13 (.un .not (.t 12)) 8 true)) rfl (by kernel_rfl) (fun hg => (.cons hg .nil))) ?_
  refine RegD.op (OpD.and (cy (I0 14 (.pick (.t 8) (.t 13) (.c (.p (.bool false)))))) rfl rfl (by first | exact hokA1 | exact hokA0 | simp)) ?_
  refine RegD.run 1 [(3, vb (y1 && (!y3))), (14, vb (y1 && (!y3))), (13, .cond y1 (vb (!y3))), (12, .cond y1 (vb y3)), (11, .cond y1 (.fn (.func 153) [] [.ptr 1 0 0, .ptr 2 0 0])), (10, .cond y1 (eS 1 vt y2)), (9, .cond y1 (.agg [vt a0.Name, vi a0.Cents, vi a0.Hours, eS 1 vt a0.Needs, eS 1 (eS 1 vt) a0.OneOf, eS 2 ePartCount a0.Parts])), (8, vb y1), (7, vb y1), (6, vt a0.Name), (5, .ptr 3 0 0), (4, .fn (.func 153) [] [.ptr 1 0 0, .ptr 2 0 0]), (1, .ptr 0 0 0), (2, .ptr 3 0 0)] [some (.row 1 [.fn (.func 153) [] [.ptr 1 0 0, .ptr 2 0 0]]), some (.row 1 [.fn (.func 87) [] []]), some (.row 1 [.emp]), some (.row 6 [.agg [vt a0.Name, vi a0.Cents, vi a0.Hours, eS 1 vt a0.Needs, eS 1 (eS 1 vt) a0.OneOf, eS 2 ePartCount a0.Parts]]), none, none, none, none, none, none, none, none, none, none, none, none] (by kernel_rfl) ?_
  refine RegD.done rfl (by kernel_rfl) (S' := ⟨[(3, vb (y1 && (!y3)))], [some (.row 1 [.fn (.func 153) [] [.ptr 1 0 0, .ptr 2 0 0]]), some (.row 1 [.fn (.func 87) [] []]), some (.row 1 [.emp])]⟩) (sc [0, 1, 2] (by decide) (by kernel_rfl) (.cons rfl (.cons rfl (.cons rfl .nil))) rfl rfl) ?_
  refine TriE.ret ?_
  have h := Option.some.inj h
  subst h
  exact DoneS.ret (S' := ⟨[(3, vb (y1 && (!y3)))], [some (.row 1 [.fn (.func 153) [] [.ptr 1 0 0, .ptr 2 0 0]]), some (.row 1 [.fn (.func 87) [] []]), some (.row 1 [.emp])]⟩) Sees.refl rfl rfl
theorem slices_IndexFunc_Task_2_ok (n : Nat) (a0 : List Task) (r : Int) (h : slices_IndexFunc_Task_2 n a0 = some r) : FnL Tryz.prog 155 [eS 6 eTask a0, .fn (.func 156) [] [.ptr 0 0 0]] [some (.row 1 [.fn (.func 153) [] [.ptr 1 0 0, .ptr 2 0 0]]), some (.row 1 [.fn (.func 87) [] []]), some (.row 1 [.emp])] (vi r) [some (.row 1 [.fn (.func 153) [] [.ptr 1 0 0, .ptr 2 0 0]]), some (.row 1 [.fn (.func 87) [] []]), some (.row 1 [.emp])] := by
  dsimp only [slices_IndexFunc_Task_2] at h
  refine FnL.ofS (ts := [4]) Tryz.call155 Tryz.func155 rfl rfl (Nat.le_of_ble_eq_true rfl) (Nat.le_of_ble_eq_true rfl) (hall_of (.cons rfl (.cons rfl (.cons rfl .nil)))) ?_
  refine sr [(0, eS 6 eTask a0), (1, .fn (.func 156) [] [.ptr 0 0 0])] [some (.row 1 [.fn (.func 153) [] [.ptr 1 0 0, .ptr 2 0 0]]), some (.row 1 [.fn (.func 87) [] []]), some (.row 1 [.emp])] ?_
  refine TriE.seqK h (fun (_ : Unit) => St.mk [] [some (.row 1 [.fn (.func 153) [] [.ptr 1 0 0, .ptr 2 0 0]]), some (.row 1 [.fn (.func 87) [] []]), some (.row 1 [.emp])]) ?_ ?_
  · rintro ⟨⟩ h
    refine sr [(4, vi (-1))] [some (.row 1 [.fn (.func 153) [] [.ptr 1 0 0, .ptr 2 0 0]]), some (.row 1 [.fn (.func 87) [] []]), some (.row 1 [.emp])] ?_
    refine TriE.ret ?_
    have h := Option.some.inj h
    subst h
    exact DoneS.ret (S' := ⟨[(4, vi (-1))], [some (.row 1 [.fn (.func 153) [] [.ptr 1 0 0, .ptr 2 0 0]]), some (.row 1 [.fn (.func 87) [] []]), some (.row 1 [.emp])]⟩) Sees.refl rfl rfl
  intro k1 h
  refine sj ?_
  refine rn 1 [(0, eS 6 eTask a0), (1, .fn (.func 156) [] [.ptr 0 0 0]), (6, eS 6 eTask a0)] [some (.row 1 [.fn (.func 153) [] [.ptr 1 0 0, .ptr 2 0 0]]), some (.row 1 [.fn (.func 87) [] []]), some (.row 1 [.emp])] ?_
  refine jv (vi (a0.length : Int)) (cy (I0 7 (.len 0 (.t 6)))) (ok_len_m rfl) rfl ?_
  refine jq 1 [(0, eS 6 eTask a0), (1, .fn (.func 156) [] [.ptr 0 0 0]), (7, vi (a0.length : Int)), (8, vi 0)] [some (.row 1 [.fn (.func 153) [] [.ptr 1 0 0, .ptr 2 0 0]]), some (.row 1 [.fn (.func 87) [] []]), some (.row 1 [.emp])] ?_
  refine TriE.block ?_
  refine TriE.sees (S' := ⟨[(0, eS 6 eTask a0), (1, .fn (.func 156) [] [.ptr 0 0 0]), (7, vi (a0.length : Int)), (8, vi 0)], [some (.row 1 [.fn (.func 153) [] [.ptr 1 0 0, .ptr 2 0 0]]), some (.row 1 [.fn (.func 87) [] []]), some (.row 1 [.emp])]⟩) sy ?_
  refine TriE.loopN h (fun (v2 : Nat) => St.mk [(0, eS 6 eTask a0), (1, .fn (.func 156) [] [.ptr 0 0 0]), (7, vi (a0.length : Int)), (8, vi v2)] [some (.row 1 [.fn (.func 153) [] [.ptr 1 0 0, .ptr 2 0 0]]), some (.row 1 [.fn (.func 87) [] []]), some (.row 1 [.emp])]) rfl ?_
  clear h
  rintro back v2 h
  dsimp only [slices_IndexFunc_Task_2_L1] at h
  refine sj ?_
  refine jv (vb (decide (v2 < a0.length))) (cy (I0 9 (.bin .lss false (.t 8) (.t 7)))) (n_lss (i := v2) (j := a0.length) rfl rfl) rfl ?_
  refine jp [(0, eS 6 eTask a0), (1, .fn (.func 156) [] [.ptr 0 0 0]), (7, vi (a0.length : Int)), (8, vi v2), (9, vb (decide (v2 < a0.length)))] ?_
  refine TriE.seq ?_
  refine TriE.cond (b := decide (v2 < a0.length)) rfl (fun c1 => ?_) (fun c1 => ?_)
  · have h := cond_t h c1
    refine TriE.skip ?_
    refine TriE.seq ?_
    refine TriE.block ?_
    refine sr [(0, eS 6 eTask a0), (1, .fn (.func 156) [] [.ptr 0 0 0]), (7, vi (a0.length : Int)), (8, vi v2), (5, vi v2)] [some (.row 1 [.fn (.func 153) [] [.ptr 1 0 0, .ptr 2 0 0]]), some (.row 1 [.fn (.func 87) [] []]), some (.row 1 [.emp])] ?_
    refine sj ?_
    refine rn 3 [(0, eS 6 eTask a0), (1, .fn (.func 156) [] [.ptr 0 0 0]), (7, vi (a0.length : Int)), (8, vi v2), (5, vi v2), (11, .fn (.func 156) [] [.ptr 0 0 0]), (12, eS 6 eTask a0), (13, vi v2)] [some (.row 1 [.fn (.func 153) [] [.ptr 1 0 0, .ptr 2 0 0]]), some (.row 1 [.fn (.func 87) [] []]), some (.row 1 [.emp])] ?_
    refine jv (.fptr 6 (List.map eTask a0) v2 0) (cy (I0 14 (.iaddr 6 (.t 12) (.t 13)))) (ok_iaddr_m (j := v2) rfl rfl rfl c1) rfl ?_
    refine jv (.agg [vt ((ix a0 v2).Name), vi ((ix a0 v2).Cents), vi ((ix a0 v2).Hours), eS 1 vt ((ix a0 v2).Needs), eS 1 (eS 1 vt) ((ix a0 v2).OneOf), eS 2 ePartCount ((ix a0 v2).Parts)]) (cy (I0 15 (.load true 6 (.t 14)))) (ok_load_fm (v := .agg [vt ((ix a0 v2).Name), vi ((ix a0 v2).Cents), vi ((ix a0 v2).Hours), eS 1 vt ((ix a0 v2).Needs), eS 1 (eS 1 vt) ((ix a0 v2).OneOf), eS 2 ePartCount ((ix a0 v2).Parts)]) rfl c1 rfl) rfl ?_
    obtain ⟨y3, hy3, h⟩ := bind_some h
    refine RegJ.op (Op1.dyn (y' := vb y3) (obx := [some (.row 1 [.fn (.func 153) [] [.ptr 1 0 0, .ptr 2 0 0]]), some (.row 1 [.fn (.func 87) [] []]), some (.row 1 [.emp])]) (oby := [some (.row 1 [.fn (.func 153) [] [.ptr 1 0 0, .ptr 2 0 0]]), some (.row 1 [.fn (.func 87) [] []]), some (.row 1 [.emp])]) (ob2 := [some (.row 1 [.fn (.func 153) [] [.ptr 1 0 0, .ptr 2 0 0]]), some (.row 1 [.fn (.func 87) [] []]), some (.row 1 [.emp])]) _ _ _ (cy (I0 16 (.dyn (.t 11) [(.t 15)]))) rfl rfl (restore_list_order_f2_ok n (ix a0 v2) y3 hy3) [0, 1, 2] (by kernel_rfl) (.cons rfl (.cons rfl .nil)) (by kernel_rfl) (by kernel_rfl) (.cons rfl (.cons rfl (.cons rfl .nil))) (by kernel_rfl) (.cons rfl (.cons rfl (.cons rfl .nil))) (by kernel_rfl)) ?_
    refine jp [(0, eS 6 eTask a0), (1, .fn (.func 156) [] [.ptr 0 0 0]), (7, vi (a0.length : Int)), (8, vi v2), (5, vi v2), (16, vb y3)] ?_
    refine TriE.cond (b := y3) rfl (fun c2 => ?_) (fun c2 => ?_)
    · have h := cond_t h c2
      refine sr [(4, vi v2)] [some (.row 1 [.fn (.func 153) [] [.ptr 1 0 0, .ptr 2 0 0]]), some (.row 1 [.fn (.func 87) [] []]), some (.row 1 [.emp])] ?_
      refine TriE.ret ?_
      have h := Option.some.inj h
      subst h
      exact DoneS.ret (S' := ⟨[(4, vi v2)], [some (.row 1 [.fn (.func 153) [] [.ptr 1 0 0, .ptr 2 0 0]]), some (.row 1 [.fn (.func 87) [] []]), some (.row 1 [.emp])]⟩) Sees.refl rfl rfl
    have h := cond_f h c2
    refine TriE.skip ?_
    refine TriE.regJ ?_
    obtain ⟨c3, h⟩ := chk_some h
    refine jv (vi ((v2 + 1 : Nat) : Int)) (cy (I0 18 (.bin .add false (.t 8) (.c (.p (.int .i64 1)))))) (r_addn (i := v2) (j := 1) rfl rfl c3) rfl ?_
    refine jq 1 [(0, eS 6 eTask a0), (1, .fn (.func 156) [] [.ptr 0 0 0]), (7, vi (a0.length : Int)), (8, vi ((v2 + 1 : Nat) : Int))] [some (.row 1 [.fn (.func 153) [] [.ptr 1 0 0, .ptr 2 0 0]]), some (.row 1 [.fn (.func 87) [] []]), some (.row 1 [.emp])] ?_
    exact Vs.intro sy ⟨(v2 + 1), rfl, h⟩
  have h := cond_f h c1
  refine TriE.exit ?_
  exact Vs.intro sy ⟨(), rfl, h⟩
theorem slices_Index_string_2_ok (n : Nat) (a0 : List Str) (a1 : Str) (r : Int) (h : slices_Index_string_2 n a0 a1 = some r) : FnL Tryz.prog 189 [.own 0 0 a0.length, vt a1] [some (.row 1 (List.map vt a0))] (vi r) [some (.row 1 (List.map vt a0))] := by
  dsimp only [slices_Index_string_2] at h
  refine FnL.ofS (ts := [4]) Tryz.call189 Tryz.func189 rfl rfl (Nat.le_of_ble_eq_true rfl) (Nat.le_of_ble_eq_true rfl) (hall_of (.cons rfl .nil)) ?_
  refine sr [(0, .own 0 0 a0.length), (1, vt a1)] [some (.row 1 (List.map vt a0))] ?_
  refine TriE.seqK h (fun (_ : Unit) => St.mk [] [some (.row 1 (List.map vt a0))]) ?_ ?_
  · rintro ⟨⟩ h
    refine sr [(4, vi (-1))] [some (.row 1 (List.map vt a0))] ?_
    refine TriE.ret ?_
    have h := Option.some.inj h
    subst h
    exact DoneS.ret (S' := ⟨[(4, vi (-1))], [some (.row 1 (List.map vt a0))]⟩) Sees.refl rfl rfl
  intro k1 h
  refine sr [(0, .own 0 0 a0.length), (1, vt a1), (7, vi (a0.length : Int)), (8, vi 0)] [some (.row 1 (List.map vt a0))] ?_
  refine TriE.block ?_
  refine TriE.sees (S' := ⟨[(0, .own 0 0 a0.length), (1, vt a1), (7, vi (a0.length : Int)), (8, vi 0)], [some (.row 1 (List.map vt a0))]⟩) sy ?_
  refine TriE.loopN h (fun (v1 : Nat) => St.mk [(0, .own 0 0 a0.length), (1, vt a1), (7, vi (a0.length : Int)), (8, vi v1)] [some (.row 1 (List.map vt a0))]) rfl ?_
  clear h
  rintro back v1 h
  dsimp only [slices_Index_string_2_L1] at h
  refine sj ?_
  refine jv (vb (decide (v1 < a0.length))) (cy (I0 9 (.bin .lss false (.t 8) (.t 7)))) (n_lss (i := v1) (j := a0.length) rfl rfl) rfl ?_
  refine jp [(0, .own 0 0 a0.length), (1, vt a1), (7, vi (a0.length : Int)), (8, vi v1), (9, vb (decide (v1 < a0.length)))] ?_
  refine TriE.seq ?_
  refine TriE.cond (b := decide (v1 < a0.length)) rfl (fun c1 => ?_) (fun c1 => ?_)
  · have h := cond_t h c1
    refine TriE.skip ?_
    refine TriE.seq ?_
    refine TriE.block ?_
    refine sr [(0, .own 0 0 a0.length), (1, vt a1), (7, vi (a0.length : Int)), (8, vi v1), (5, vi v1)] [some (.row 1 (List.map vt a0))] ?_
    refine sj ?_
    refine rn 3 [(0, .own 0 0 a0.length), (1, vt a1), (7, vi (a0.length : Int)), (8, vi v1), (5, vi v1), (11, vt a1), (12, .own 0 0 a0.length), (13, vi v1)] [some (.row 1 (List.map vt a0))] ?_
    refine jv (.ptr 0 v1 0) (cy (I0 14 (.iaddr 1 (.t 12) (.t 13)))) (ok_iaddr_o0 (j := v1) rfl rfl rfl rfl c1) rfl ?_
    refine jv (vt (ix a0 v1)) (cy (I0 15 (.load false 1 (.t 14)))) (ok_load_pm (l := a0) (e := vt) (v := vt (ix a0 v1)) rfl rfl c1 rfl) rfl ?_
    refine jq 1 [(0, .own 0 0 a0.length), (1, vt a1), (7, vi (a0.length : Int)), (8, vi v1), (5, vi v1), (16, vb (a1 == (ix a0 v1)))] [some (.row 1 (List.map vt a0))] ?_
    refine TriE.cond (b := (a1 == (ix a0 v1))) rfl (fun c2 => ?_) (fun c2 => ?_)
    · have h := cond_t h c2
      refine sr [(4, vi v1)] [some (.row 1 (List.map vt a0))] ?_
      refine TriE.ret ?_
      have h := Option.some.inj h
      subst h
      exact DoneS.ret (S' := ⟨[(4, vi v1)], [some (.row 1 (List.map vt a0))]⟩) Sees.refl rfl rfl
    have h := cond_f h c2
    refine TriE.skip ?_
    refine TriE.regJ ?_
    obtain ⟨c3, h⟩ := chk_some h
    refine jv (vi ((v1 + 1 : Nat) : Int)) (cy (I0 18 (.bin .add false (.t 8) (.c (.p (.int .i64 1)))))) (r_addn (i := v1) (j := 1) rfl rfl c3) rfl ?_
    refine jq 1 [(0, .own 0 0 a0.length), (1, vt a1), (7, vi (a0.length : Int)), (8, vi ((v1 + 1 : Nat) : Int))] [some (.row 1 (List.map vt a0))] ?_
    exact Vs.intro sy ⟨(v1 + 1), rfl, h⟩
  have h := cond_f h c1
  refine TriE.exit ?_
  exact Vs.intro sy ⟨(), rfl, h⟩
theorem slices_Contains_string_2_ok (n : Nat) (a0 : List Str) (a1 : Str) (r : Bool) (h : slices_Contains_string_2 n a0 a1 = some r) : FnL Tryz.prog 154 [.own 0 0 a0.length, vt a1] [some (.row 1 (List.map vt a0))] (vb r) [some (.row 1 (List.map vt a0))] := by
  dsimp only [slices_Contains_string_2] at h
  refine FnL.ofS (ts := [4]) Tryz.call154 Tryz.func154 rfl rfl (Nat.le_of_ble_eq_true rfl) (Nat.le_of_ble_eq_true rfl) (hall_of (.cons rfl .nil)) ?_
  refine sr [(0, .own 0 0 a0.length), (1, vt a1)] [some (.row 1 (List.map vt a0))] ?_
  refine sj ?_
  refine rn 2 [(5, .own 0 0 a0.length), (6, vt a1)] [some (.row 1 (List.map vt a0))] ?_
  obtain ⟨y1, hy1, h⟩ := bind_some h
  refine RegJ.op (Op1.call (y' := vi y1) (obx := [some (.row 1 (List.map vt a0))]) (oby := [some (.row 1 (List.map vt a0))]) (ob2 := [some (.row 1 (List.map vt a0))]) _ _ (cy (I0 7 (.call 189 [(.t 5), (.t 6)]))) rfl (slices_Index_string_2_ok n a0 a1 y1 hy1) [0] (by kernel_rfl) (.cons rfl (.cons rfl (.cons rfl .nil))) (by kernel_rfl) (by kernel_rfl) (.same (row_ren vt_frz _ _ _) .nil) (by kernel_rfl) (.same (row_ren vt_frz _ _ _) .nil) (by kernel_rfl)) ?_
  refine jq 2 [(4, vb (decide ((0 : Int) ≤ y1)))] [some (.row 1 (List.map vt a0))] ?_
  refine TriE.ret ?_
  have h := Option.some.inj h
  subst h
  exact DoneS.ret (S' := ⟨[(4, vb (decide ((0 : Int) ≤ y1)))], [some (.row 1 (List.map vt a0))]⟩) Sees.refl rfl rfl
theorem restore_list_order_f1_2_ok (n : Nat) (a0 : Str) (a1 : List Str) (r : Bool) (h : restore_list_order_f1_2 n a0 a1 = some r) : FnL Tryz.prog 153 [vt a0, .ptr 0 0 0, .ptr 1 0 0] [some (.row 1 [.fn (.func 87) [] []]), some (.row 1 [.own 2 0 a1.length]), some (.row 1 (List.map vt a1))] (vb r) [some (.row 1 [.fn (.func 87) [] []]), some (.row 1 [.own 2 0 a1.length]), some (.row 1 (List.map vt a1))] := by
  dsimp only [restore_list_order_f1_2] at h
  refine FnL.ofS (ts := [4]) Tryz.call153 Tryz.func153 rfl rfl (Nat.le_of_ble_eq_true rfl) (Nat.le_of_ble_eq_true rfl) (hall_of (.cons rfl (.cons rfl (.cons rfl .nil)))) ?_
  refine sr [(0, vt a0), (1, .ptr 0 0 0), (2, .ptr 1 0 0)] [some (.row 1 [.fn (.func 87) [] []]), some (.row 1 [.own 2 0 a1.length]), some (.row 1 (List.map vt a1))] ?_
  refine sj ?_
  refine rn 2 [(0, vt a0), (2, .ptr 1 0 0), (5, .fn (.func 87) [] []), (6, vt a0)] [some (.row 1 [.fn (.func 87) [] []]), some (.row 1 [.own 2 0 a1.length]), some (.row 1 (List.map vt a1))] ?_
  obtain ⟨y1, hy1, h⟩ := bind_some h
  refine RegJ.op (Op1.dyn (y' := vb true) (obx := []) (oby := []) (ob2 := [some (.row 1 [.fn (.func 87) [] []]), some (.row 1 [.own 2 0 a1.length]), some (.row 1 (List.map vt a1))]) _ _ _ (cy (I0 7 (.dyn (.t 5) [(.t 6)]))) rfl rfl (restore_CheckTasks_f1_ok n a0 y1 hy1) [] (by kernel_rfl) (.cons rfl (.cons rfl .nil)) (by kernel_rfl) (by kernel_rfl) ObsRen.nil (by kernel_rfl) ObsRen.nil (by kernel_rfl)) ?_
  refine rn 1 [(0, vt a0), (2, .ptr 1 0 0), (8, vb true)] [some (.row 1 [.fn (.func 87) [] []]), some (.row 1 [.own 2 0 a1.length]), some (.row 1 (List.map vt a1))] ?_
  refine RegJ.op (Op1.valk (v := .own 2 0 a1.length) _ _ (cy (IG 9 (.load false 1 (.t 2)) 8 true)) rfl (by kernel_rfl) (fun hg => (.cons rfl .nil))) ?_
  refine RegJ.op (Op1.valk (v := vt a0) _ _ (cy (IG 10 (.mov (.t 0)) 8 true)) rfl (by kernel_rfl) (fun hg => (.cons rfl .nil))) ?_
  obtain ⟨y2, hy2, h⟩ := bind_some h
  refine RegJ.op (Op1.callg (g := true) (y' := vb y2) (obx := [some (.row 1 (List.map vt a1))]) _ _ (cy (IG 11 (.call 154 [(.t 9), (.t 10)]) 8 true)) rfl (fun hg => slices_Contains_string_2_ok n a1 a0 y2 (gcall_some hy2 hg)) [2] (fun hg => by kernel_rfl) (fun hg => (.cons rfl (.cons hg (.cons hg .nil)))) (by kernel_rfl) (by kernel_rfl) (.same (row_ren vt_frz _ _ _) .nil) (by kernel_rfl) (by kernel_rfl)) ?_
  refine RegJ.op (Op1.valk (v := vb (!y2)) _ _ (cy (IG 12 (.un .not (.t 11)) 8 true)) rfl (by kernel_rfl) (fun hg => (.cons hg .nil))) ?_
  refine RegJ.op (Op1.and (cy (I0 13 (.pick (.t 8) (.t 12) (.c (.p (.bool false)))))) rfl rfl (by first | exact hokA1 | exact hokA0 | simp)) ?_
  refine jq 1 [(4, vb (true && (!y2)))] [some (.row 1 [.fn (.func 87) [] []]), some (.row 1 [.own 2 0 a1.length]), some (.row 1 (List.map vt a1))] ?_
  refine TriE.ret ?_
  have h := Option.some.inj h
  subst h
  exact DoneS.ret (S' := ⟨[(4, vb (true && (!y2)))], [some (.row 1 [.fn (.func 87) [] []]), some (.row 1 [.own 2 0 a1.length]), some (.row 1 (List.map vt a1))]⟩) Sees.refl rfl rfl
theorem slices_IndexFunc_string_3_ok (n : Nat) (a0 : List Str) (a1 : List Str) (r : Int) (h : slices_IndexFunc_string_3 n a0 a1 = some r) : FnL Tryz.prog 170 [eS 1 vt a0, .fn (.func 153) [] [.ptr 0 0 0, .ptr 1 0 0]] [some (.row 1 [.fn (.func 87) [] []]), some (.row 1 [.own 2 0 a1.length]), some (.row 1 (List.map vt a1))] (vi r) [some (.row 1 [.fn (.func 87) [] []]), some (.row 1 [.own 2 0 a1.length]), some (.row 1 (List.map vt a1))] := by
  dsimp only [slices_IndexFunc_string_3] at h
  refine FnL.ofS (ts := [4]) Tryz.call170 Tryz.func170 rfl rfl (Nat.le_of_ble_eq_true rfl) (Nat.le_of_ble_eq_true rfl) (hall_of (.cons rfl (.cons rfl (.cons rfl .nil)))) ?_
  refine sr [(0, eS 1 vt a0), (1, .fn (.func 153) [] [.ptr 0 0 0, .ptr 1 0 0])] [some (.row 1 [.fn (.func 87) [] []]), some (.row 1 [.own 2 0 a1.length]), some (.row 1 (List.map vt a1))] ?_
  refine TriE.seqK h (fun (_ : Unit) => St.mk [] [some (.row 1 [.fn (.func 87) [] []]), some (.row 1 [.own 2 0 a1.length]), some (.row 1 (List.map vt a1))]) ?_ ?_
  · rintro ⟨⟩ h
    refine sr [(4, vi (-1))] [some (.row 1 [.fn (.func 87) [] []]), some (.row 1 [.own 2 0 a1.length]), some (.row 1 (List.map vt a1))] ?_
    refine TriE.ret ?_
    have h := Option.some.inj h
    subst h
    exact DoneS.ret (S' := ⟨[(4, vi (-1))], [some (.row 1 [.fn (.func 87) [] []]), some (.row 1 [.own 2 0 a1.length]), some (.row 1 (List.map vt a1))]⟩) Sees.refl rfl rfl
  intro k1 h
  refine sj ?_
  refine rn 1 [(0, eS 1 vt a0), (1, .fn (.func 153) [] [.ptr 0 0 0, .ptr 1 0 0]), (6, eS 1 vt a0)] [some (.row 1 [.fn (.func 87) [] []]), some (.row 1 [.own 2 0 a1.length]), some (.row 1 (List.map vt a1))] ?_
  refine jv (vi (a0.length : Int)) (cy (I0 7 (.len 0 (.t 6)))) (ok_len_m rfl) rfl ?_
  refine jq 1 [(0, eS 1 vt a0), (1, .fn (.func 153) [] [.ptr 0 0 0, .ptr 1 0 0]), (7, vi (a0.length : Int)), (8, vi 0)] [some (.row 1 [.fn (.func 87) [] []]), some (.row 1 [.own 2 0 a1.length]), some (.row 1 (List.map vt a1))] ?_
  refine TriE.block ?_
  refine TriE.sees (S' := ⟨[(0, eS 1 vt a0), (1, .fn (.func 153) [] [.ptr 0 0 0, .ptr 1 0 0]), (7, vi (a0.length : Int)), (8, vi 0)], [some (.row 1 [.fn (.func 87) [] []]), some (.row 1 [.own 2 0 a1.length]), some (.row 1 (List.map vt a1))]⟩) sy ?_
  refine TriE.loopN h (fun (v2 : Nat) => St.mk [(0, eS 1 vt a0), (1, .fn (.func 153) [] [.ptr 0 0 0, .ptr 1 0 0]), (7, vi (a0.length : Int)), (8, vi v2)] [some (.row 1 [.fn (.func 87) [] []]), some (.row 1 [.own 2 0 a1.length]), some (.row 1 (List.map vt a1))]) rfl ?_
  clear h
  rintro back v2 h
  dsimp only [slices_IndexFunc_string_3_L1] at h
  refine sj ?_
  refine jv (vb (decide (v2 < a0.length))) (cy (I0 9 (.bin .lss false (.t 8) (.t 7)))) (n_lss (i := v2) (j := a0.length) rfl rfl) rfl ?_
  refine jp [(0, eS 1 vt a0), (1, .fn (.func 153) [] [.ptr 0 0 0, .ptr 1 0 0]), (7, vi (a0.length : Int)), (8, vi v2), (9, vb (decide (v2 < a0.length)))] ?_
  refine TriE.seq ?_
  refine TriE.cond (b := decide (v2 < a0.length)) rfl (fun c1 => ?_) (fun c1 => ?_)
  · have h := cond_t h c1
    refine TriE.skip ?_
    refine TriE.seq ?_
    refine TriE.block ?_
    refine sr [(0, eS 1 vt a0), (1, .fn (.func 153) [] [.ptr 0 0 0, .ptr 1 0 0]), (7, vi (a0.length : Int)), (8, vi v2), (5, vi v2)] [some (.row 1 [.fn (.func 87) [] []]), some (.row 1 [.own 2 0 a1.length]), some (.row 1 (List.map vt a1))] ?_
    refine sj ?_
    refine rn 3 [(0, eS 1 vt a0), (1, .fn (.func 153) [] [.ptr 0 0 0, .ptr 1 0 0]), (7, vi (a0.length : Int)), (8, vi v2), (5, vi v2), (11, .fn (.func 153) [] [.ptr 0 0 0, .ptr 1 0 0]), (12, eS 1 vt a0), (13, vi v2)] [some (.row 1 [.fn (.func 87) [] []]), some (.row 1 [.own 2 0 a1.length]), some (.row 1 (List.map vt a1))] ?_
    refine jv (.fptr 1 (List.map vt a0) v2 0) (cy (I0 14 (.iaddr 1 (.t 12) (.t 13)))) (ok_iaddr_m (j := v2) rfl rfl rfl c1) rfl ?_
    refine jv (vt (ix a0 v2)) (cy (I0 15 (.load false 1 (.t 14)))) (ok_load_fm (v := vt (ix a0 v2)) rfl c1 rfl) rfl ?_
    obtain ⟨y3, hy3, h⟩ := bind_some h
    refine RegJ.op (Op1.dyn (y' := vb y3) (obx := [some (.row 1 [.fn (.func 87) [] []]), some (.row 1 [.own 2 0 a1.length]), some (.row 1 (List.map vt a1))]) (oby := [some (.row 1 [.fn (.func 87) [] []]), some (.row 1 [.own 2 0 a1.length]), some (.row 1 (List.map vt a1))]) (ob2 := [some (.row 1 [.fn (.func 87) [] []]), some (.row 1 [.own 2 0 a1.length]), some (.row 1 (List.map vt a1))]) _ _ _ (cy (I0 16 (.dyn (.t 11) [(.t 15)]))) rfl rfl (restore_list_order_f1_2_ok n (ix a0 v2) a1 y3 hy3) [0, 1, 2] (by kernel_rfl) (.cons rfl (.cons rfl .nil)) (by kernel_rfl) (by kernel_rfl) (.cons rfl (.cons rfl (.same (row_ren vt_frz _ _ _) .nil))) (by kernel_rfl) (.cons rfl (.cons rfl (.same (row_ren vt_frz _ _ _) .nil))) (by kernel_rfl)) ?_
    refine jp [(0, eS 1 vt a0), (1, .fn (.func 153) [] [.ptr 0 0 0, .ptr 1 0 0]), (7, vi (a0.length : Int)), (8, vi v2), (5, vi v2), (16, vb y3)] ?_
    refine TriE.cond (b := y3) rfl (fun c2 => ?_) (fun c2 => ?_)
    · have h := cond_t h c2
      refine sr [(4, vi v2)] [some (.row 1 [.fn (.func 87) [] []]), some (.row 1 [.own 2 0 a1.length]), some (.row 1 (List.map vt a1))] ?_
      refine TriE.ret ?_
      have h := Option.some.inj h
      subst h
      exact DoneS.ret (S' := ⟨[(4, vi v2)], [some (.row 1 [.fn (.func 87) [] []]), some (.row 1 [.own 2 0 a1.length]), some (.row 1 (List.map vt a1))]⟩) Sees.refl rfl rfl
    have h := cond_f h c2
    refine TriE.skip ?_
    refine TriE.regJ ?_
    obtain ⟨c3, h⟩ := chk_some h
    refine jv (vi ((v2 + 1 : Nat) : Int)) (cy (I0 18 (.bin .add false (.t 8) (.c (.p (.int .i64 1)))))) (r_addn (i := v2) (j := 1) rfl rfl c3) rfl ?_
    refine jq 1 [(0, eS 1 vt a0), (1, .fn (.func 153) [] [.ptr 0 0 0, .ptr 1 0 0]), (7, vi (a0.length : Int)), (8, vi ((v2 + 1 : Nat) : Int))] [some (.row 1 [.fn (.func 87) [] []]), some (.row 1 [.own 2 0 a1.length]), some (.row 1 (List.map vt a1))] ?_
    exact Vs.intro sy ⟨(v2 + 1), rfl, h⟩
  have h := cond_f h c1
  refine TriE.exit ?_
  exact Vs.intro sy ⟨(), rfl, h⟩
theorem slices_ContainsFunc_string_3_ok (n : Nat) (a0 : List Str) (a1 : List Str) (r : Bool) (h : slices_ContainsFunc_string_3 n a0 a1 = some r) : FnL Tryz.prog 116 [eS 1 vt a0, .fn (.func 153) [] [.ptr 0 0 0, .ptr 1 0 0]] [some (.row 1 [.fn (.func 87) [] []]), some (.row 1 [.own 2 0 a1.length]), some (.row 1 (List.map vt a1))] (vb r) [some (.row 1 [.fn (.func 87) [] []]), some (.row 1 [.own 2 0 a1.length]), some (.row 1 (List.map vt a1))] := by
  dsimp only [slices_ContainsFunc_string_3] at h
  refine FnL.ofS (ts := [4]) Tryz.call116 Tryz.func116 rfl rfl (Nat.le_of_ble_eq_true rfl) (Nat.le_of_ble_eq_true rfl) (hall_of (.cons rfl (.cons rfl (.cons rfl .nil)))) ?_
  refine sr [(0, eS 1 vt a0), (1, .fn (.func 153) [] [.ptr 0 0 0, .ptr 1 0 0])] [some (.row 1 [.fn (.func 87) [] []]), some (.row 1 [.own 2 0 a1.length]), some (.row 1 (List.map vt a1))] ?_
  refine sj ?_
  refine rn 2 [(5, eS 1 vt a0), (6, .fn (.func 153) [] [.ptr 0 0 0, .ptr 1 0 0])] [some (.row 1 [.fn (.func 87) [] []]), some (.row 1 [.own 2 0 a1.length]), some (.row 1 (List.map vt a1))] ?_
  obtain ⟨y1, hy1, h⟩ := bind_some h
  refine RegJ.op (Op1.call (y' := vi y1) (obx := [some (.row 1 [.fn (.func 87) [] []]), some (.row 1 [.own 2 0 a1.length]), some (.row 1 (List.map vt a1))]) (oby := [some (.row 1 [.fn (.func 87) [] []]), some (.row 1 [.own 2 0 a1.length]), some (.row 1 (List.map vt a1))]) (ob2 := [some (.row 1 [.fn (.func 87) [] []]), some (.row 1 [.own 2 0 a1.length]), some (.row 1 (List.map vt a1))]) _ _ (cy (I0 7 (.call 170 [(.t 5), (.t 6)]))) rfl (slices_IndexFunc_string_3_ok n a0 a1 y1 hy1) [0, 1, 2] (by kernel_rfl) (.cons rfl (.cons rfl (.cons rfl .nil))) (by kernel_rfl) (by kernel_rfl) (.cons rfl (.cons rfl (.same (row_ren vt_frz _ _ _) .nil))) (by kernel_rfl) (.cons rfl (.cons rfl (.same (row_ren vt_frz _ _ _) .nil))) (by kernel_rfl)) ?_
  refine jq 2 [(4, vb (decide ((0 : Int) ≤ y1)))] [some (.row 1 [.fn (.func 87) [] []]), some (.row 1 [.own 2 0 a1.length]), some (.row 1 (List.map vt a1))] ?_
  refine TriE.ret ?_
  have h := Option.some.inj h
  subst h
  exact DoneS.ret (S' := ⟨[(4, vb (decide ((0 : Int) ≤ y1)))], [some (.row 1 [.fn (.func 87) [] []]), some (.row 1 [.own 2 0 a1.length]), some (.row 1 (List.map vt a1))]⟩) Sees.refl rfl rfl
theorem restore_list_order_f2_2_ok (n : Nat) (a0 : Task) (a1 : List Str) (r : Bool) (h : restore_list_order_f2_2 n a0 a1 = some r) : FnL Tryz.prog 156 [.agg [vt a0.Name, vi a0.Cents, vi a0.Hours, eS 1 vt a0.Needs, eS 1 (eS 1 vt) a0.OneOf, eS 2 ePartCount a0.Parts], .ptr 0 0 0] [some (.row 1 [.fn (.func 153) [] [.ptr 1 0 0, .ptr 2 0 0]]), some (.row 1 [.fn (.func 87) [] []]), some (.row 1 [.own 3 0 a1.length]), some (.row 1 (List.map vt a1))] (vb r) [some (.row 1 [.fn (.func 153) [] [.ptr 1 0 0, .ptr 2 0 0]]), some (.row 1 [.fn (.func 87) [] []]), some (.row 1 [.own 3 0 a1.length]), some (.row 1 (List.map vt a1))] := by
  dsimp only [restore_list_order_f2_2] at h
  refine FnL.ofS (ts := [3]) Tryz.call156 Tryz.func156 rfl rfl (Nat.le_of_ble_eq_true rfl) (Nat.le_of_ble_eq_true rfl) (hall_of (.cons rfl (.cons rfl (.cons rfl (.cons rfl .nil))))) ?_
  refine sr [(1, .ptr 0 0 0), (2, .ptr 4 0 0)] [some (.row 1 [.fn (.func 153) [] [.ptr 1 0 0, .ptr 2 0 0]]), some (.row 1 [.fn (.func 87) [] []]), some (.row 1 [.own 3 0 a1.length]), some (.row 1 (List.map vt a1)), some (.row 6 [.agg [vt a0.Name, vi a0.Cents, vi a0.Hours, eS 1 vt a0.Needs, eS 1 (eS 1 vt) a0.OneOf, eS 2 ePartCount a0.Parts]])] ?_
  refine TriE.seq ?_
  refine TriE.sees (Sees.less (fr' := [(1, .ptr 0 0 0), (2, .ptr 4 0 0)]) (.cons rfl (.cons rfl .nil))) ?_
  refine TriE.draw (by kernel_rfl) ?_
  refine RegD.run 3 [(6, vt a0.Name), (5, .ptr 4 0 0), (4, .fn (.func 153) [] [.ptr 1 0 0, .ptr 2 0 0]), (1, .ptr 0 0 0), (2, .ptr 4 0 0)] [some (.row 1 [.fn (.func 153) [] [.ptr 1 0 0, .ptr 2 0 0]]), some (.row 1 [.fn (.func 87) [] []]), some (.row 1 [.own 3 0 a1.length]), some (.row 1 (List.map vt a1)), some (.row 6 [.agg [vt a0.Name, vi a0.Cents, vi a0.Hours, eS 1 vt a0.Needs, eS 1 (eS 1 vt) a0.OneOf, eS 2 ePartCount a0.Parts]]), none, none, none] (by kernel_rfl) ?_
  obtain ⟨y1, hy1, h⟩ := bind_some h
  refine RegD.op (OpD.dyn (y' := vb y1) (obx := [some (.row 1 [.fn (.func 87) [] []]), some (.row 1 [.own 3 0 a1.length]), some (.row 1 (List.map vt a1))]) (oby := [some (.row 1 [.fn (.func 87) [] []]), some (.row 1 [.own 3 0 a1.length]), some (.row 1 (List.map vt a1))]) (ob2 := [some (.row 1 [.fn (.func 153) [] [.ptr 1 0 0, .ptr 2 0 0]]), some (.row 1 [.fn (.func 87) [] []]), some (.row 1 [.own 3 0 a1.length]), some (.row 1 (List.map vt a1)), some (.row 6 [.agg [vt a0.Name, vi a0.Cents, vi a0.Hours, eS 1 vt a0.Needs, eS 1 (eS 1 vt) a0.OneOf, eS 2 ePartCount a0.Parts]]), none, none, none, none]) (tch := []) 0 _ _ _ (cy (I0 7 (.dyn (.t 4) [(.t 6)]))) rfl (restore_list_order_f1_2_ok n a0.Name a1 y1 hy1) [1, 2, 3] (by kernel_rfl) (.cons rfl (.cons rfl .nil)) (by kernel_rfl) (by kernel_rfl) (.cons rfl (.cons rfl (.same (row_ren vt_frz _ _ _) .nil))) (by kernel_rfl) (.cons rfl (.cons rfl (.same (row_ren vt_frz _ _ _) .nil))) (by kernel_rfl) rfl (.inr ⟨rfl, rfl⟩)) ?_
  refine RegD.run 1 [(8, vb y1), (7, vb y1), (6, vt a0.Name), (5, .ptr 4 0 0), (4, .fn (.func 153) [] [.ptr 1 0 0, .ptr 2 0 0]), (1, .ptr 0 0 0), (2, .ptr 4 0 0)] [some (.row 1 [.fn (.func 153) [] [.ptr 1 0 0, .ptr 2 0 0]]), some (.row 1 [.fn (.func 87) [] []]), some (.row 1 [.own 3 0 a1.length]), some (.row 1 (List.map vt a1)), some (.row 6 [.agg [vt a0.Name, vi a0.Cents, vi a0.Hours, eS 1 vt a0.Needs, eS 1 (eS 1 vt) a0.OneOf, eS 2 ePartCount a0.Parts]]), none, none, none, none, none] (by kernel_rfl) ?_
  refine RegD.op (OpD.valk (g := y1) (v := .agg [vt a0.Name, vi a0.Cents, vi a0.Hours, eS 1 vt a0.Needs, eS 1 (eS 1 vt) a0.OneOf, eS 2 ePartCount a0.Parts]) _ _ (cy (IG 9 (.load true 6 (.t 2)) 8 true)) rfl (by kernel_rfl) (fun hg => (.cons rfl .nil))) ?_
  obtain ⟨y2, hy2, h⟩ := bind_some h
  refine RegD.op (OpD.callg (g := y1) (y' := eS 1 vt y2) (obx := []) _ _ (cy (IG 10 (.call 146 [(.t 9)]) 8 true)) rfl (fun hg => restore_leads_ok n a0 y2 (gcall_some hy2 hg)) [] (fun hg => by kernel_rfl) (fun hg => (.cons rfl (.cons hg .nil))) (by kernel_rfl) (by kernel_rfl) ObsRen.nil (by kernel_rfl) (by kernel_rfl) rfl) ?_
  refine RegD.op (OpD.valk (g := y1) (v := .fn (.func 153) [] [.ptr 1 0 0, .ptr 2 0 0]) _ _ (cy (IG 11 (.load false 1 (.t 1)) 8 true)) rfl (by kernel_rfl) (fun hg => (.cons rfl .nil))) ?_
  obtain ⟨y3, hy3, h⟩ := bind_some h
  refine RegD.op (OpD.callg (g := y1) (y' := vb y3) (obx := [some (.row 1 [.fn (.func 87) [] []]), some (.row 1 [.own 3 0 a1.length]), some (.row 1 (List.map vt a1))]) _ _ (cy (IG 12 (.call 116 [(.t 10), (.t 11)]) 8 true)) rfl (fun hg => slices_ContainsFunc_string_3_ok n y2 a1 y3 (gcall_some hy3 hg)) [1, 2, 3] (fun hg => by kernel_rfl) (fun hg => (.cons rfl (.cons hg (.cons hg .nil)))) (by kernel_rfl) (by kernel_rfl) (.cons rfl (.cons rfl (.same (row_ren vt_frz _ _ _) .nil))) (by kernel_rfl) (by kernel_rfl) rfl) ?_
  refine RegD.op (OpD.valk (g := y1) (v := vb (!y3)) _ _ (cy (IG 13 (.un .not (.t 12)) 8 true)) rfl (by kernel_rfl) (fun hg => (.cons hg .nil))) ?_
  refine RegD.op (OpD.and (cy (I0 14 (.pick (.t 8) (.t 13) (.c (.p (.bool false)))))) rfl rfl (by first | exact hokA1 | exact hokA0 | simp)) ?_
  refine RegD.run 1 [(3, vb (y1 && (!y3))), (14, vb (y1 && (!y3))), (13, .cond y1 (vb (!y3))), (12, .cond y1 (vb y3)), (11, .cond y1 (.fn (.func 153) [] [.ptr 1 0 0, .ptr 2 0 0])), (10, .cond y1 (eS 1 vt y2)), (9, .cond y1 (.agg [vt a0.Name, vi a0.Cents, vi a0.Hours, eS 1 vt a0.Needs, eS 1 (eS 1 vt) a0.OneOf, eS 2 ePartCount a0.Parts])), (8, vb y1), (7, vb y1), (6, vt a0.Name), (5, .ptr 4 0 0), (4, .fn (.func 153) [] [.ptr 1 0 0, .ptr 2 0 0]), (1, .ptr 0 0 0), (2, .ptr 4 0 0)] [some (.row 1 [.fn (.func 153) [] [.ptr 1 0 0, .ptr 2 0 0]]), some (.row 1 [.fn (.func 87) [] []]), some (.row 1 [.own 3 0 a1.length]), some (.row 1 (List.map vt a1)), some (.row 6 [.agg [vt a0.Name, vi a0.Cents, vi a0.Hours, eS 1 vt a0.Needs, eS 1 (eS 1 vt) a0.OneOf, eS 2 ePartCount a0.Parts]]), none, none, none, none, none, none, none, none, none, none, none, none] (by kernel_rfl) ?_
  refine RegD.done rfl (by kernel_rfl) (S' := ⟨[(3, vb (y1 && (!y3)))], [some (.row 1 [.fn (.func 153) [] [.ptr 1 0 0, .ptr 2 0 0]]), some (.row 1 [.fn (.func 87) [] []]), some (.row 1 [.own 3 0 a1.length]), some (.row 1 (List.map vt a1))]⟩) (sc [0, 1, 2, 3] (by decide) (by kernel_rfl) (.cons rfl (.cons rfl (.cons rfl (obRen_row vt_frz rfl .nil)))) rfl rfl) ?_
  refine TriE.ret ?_
  have h := Option.some.inj h
  subst h
  exact DoneS.ret (S' := ⟨[(3, vb (y1 && (!y3)))], [some (.row 1 [.fn (.func 153) [] [.ptr 1 0 0, .ptr 2 0 0]]), some (.row 1 [.fn (.func 87) [] []]), some (.row 1 [.own 3 0 a1.length]), some (.row 1 (List.map vt a1))]⟩) Sees.refl rfl rfl
theorem slices_IndexFunc_Task_3_ok (n : Nat) (a0 : List Task) (a1 : List Str) (r : Int) (h : slices_IndexFunc_Task_3 n a0 a1 = some r) : FnL Tryz.prog 155 [eS 6 eTask a0, .fn (.func 156) [] [.ptr 0 0 0]] [some (.row 1 [.fn (.func 153) [] [.ptr 1 0 0, .ptr 2 0 0]]), some (.row 1 [.fn (.func 87) [] []]), some (.row 1 [.own 3 0 a1.length]), some (.row 1 (List.map vt a1))] (vi r) [some (.row 1 [.fn (.func 153) [] [.ptr 1 0 0, .ptr 2 0 0]]), some (.row 1 [.fn (.func 87) [] []]), some (.row 1 [.own 3 0 a1.length]), some (.row 1 (List.map vt a1))] := by
  dsimp only [slices_IndexFunc_Task_3] at h
  refine FnL.ofS (ts := [4]) Tryz.call155 Tryz.func155 rfl rfl (Nat.le_of_ble_eq_true rfl) (Nat.le_of_ble_eq_true rfl) (hall_of (.cons rfl (.cons rfl (.cons rfl (.cons rfl .nil))))) ?_
  refine sr [(0, eS 6 eTask a0), (1, .fn (.func 156) [] [.ptr 0 0 0])] [some (.row 1 [.fn (.func 153) [] [.ptr 1 0 0, .ptr 2 0 0]]), some (.row 1 [.fn (.func 87) [] []]), some (.row 1 [.own 3 0 a1.length]), some (.row 1 (List.map vt a1))] ?_
  refine TriE.seqK h (fun (_ : Unit) => St.mk [] [some (.row 1 [.fn (.func 153) [] [.ptr 1 0 0, .ptr 2 0 0]]), some (.row 1 [.fn (.func 87) [] []]), some (.row 1 [.own 3 0 a1.length]), some (.row 1 (List.map vt a1))]) ?_ ?_
  · rintro ⟨⟩ h
    refine sr [(4, vi (-1))] [some (.row 1 [.fn (.func 153) [] [.ptr 1 0 0, .ptr 2 0 0]]), some (.row 1 [.fn (.func 87) [] []]), some (.row 1 [.own 3 0 a1.length]), some (.row 1 (List.map vt a1))] ?_
    refine TriE.ret ?_
    have h := Option.some.inj h
    subst h
    exact DoneS.ret (S' := ⟨[(4, vi (-1))], [some (.row 1 [.fn (.func 153) [] [.ptr 1 0 0, .ptr 2 0 0]]), some (.row 1 [.fn (.func 87) [] []]), some (.row 1 [.own 3 0 a1.length]), some (.row 1 (List.map vt a1))]⟩) Sees.refl rfl rfl
  intro k1 h
  refine sj ?_
  refine rn 1 [(0, eS 6 eTask a0), (1, .fn (.func 156) [] [.ptr 0 0 0]), (6, eS 6 eTask a0)] [some (.row 1 [.fn (.func 153) [] [.ptr 1 0 0, .ptr 2 0 0]]), some (.row 1 [.fn (.func 87) [] []]), some (.row 1 [.own 3 0 a1.length]), some (.row 1 (List.map vt a1))] ?_
  refine jv (vi (a0.length : Int)) (cy (I0 7 (.len 0 (.t 6)))) (ok_len_m rfl) rfl ?_
  refine jq 1 [(0, eS 6 eTask a0), (1, .fn (.func 156) [] [.ptr 0 0 0]), (7, vi (a0.length : Int)), (8, vi 0)] [some (.row 1 [.fn (.func 153) [] [.ptr 1 0 0, .ptr 2 0 0]]), some (.row 1 [.fn (.func 87) [] []]), some (.row 1 [.own 3 0 a1.length]), some (.row 1 (List.map vt a1))] ?_
  refine TriE.block ?_
  refine TriE.sees (S' := ⟨[(0, eS 6 eTask a0), (1, .fn (.func 156) [] [.ptr 0 0 0]), (7, vi (a0.length : Int)), (8, vi 0)], [some (.row 1 [.fn (.func 153) [] [.ptr 1 0 0, .ptr 2 0 0]]), some (.row 1 [.fn (.func 87) [] []]), some (.row 1 [.own 3 0 a1.length]), some (.row 1 (List.map vt a1))]⟩) sy ?_
  refine TriE.loopN h (fun (v2 : Nat) => St.mk [(0, eS 6 eTask a0), (1, .fn (.func 156) [] [.ptr 0 0 0]), (7, vi (a0.length : Int)), (8, vi v2)] [some (.row 1 [.fn (.func 153) [] [.ptr 1 0 0, .ptr 2 0 0]]), some (.row 1 [.fn (.func 87) [] []]), some (.row 1 [.own 3 0 a1.length]), some (.row 1 (List.map vt a1))]) rfl ?_
  clear h
  rintro back v2 h
  dsimp only [slices_IndexFunc_Task_3_L1] at h
  refine sj ?_
  refine jv (vb (decide (v2 < a0.length))) (cy (I0 9 (.bin .lss false (.t 8) (.t 7)))) (n_lss (i := v2) (j := a0.length) rfl rfl) rfl ?_
  refine jp [(0, eS 6 eTask a0), (1, .fn (.func 156) [] [.ptr 0 0 0]), (7, vi (a0.length : Int)), (8, vi v2), (9, vb (decide (v2 < a0.length)))] ?_
  refine TriE.seq ?_
  refine TriE.cond (b := decide (v2 < a0.length)) rfl (fun c1 => ?_) (fun c1 => ?_)
  · have h := cond_t h c1
    refine TriE.skip ?_
    refine TriE.seq ?_
    refine TriE.block ?_
    refine sr [(0, eS 6 eTask a0), (1, .fn (.func 156) [] [.ptr 0 0 0]), (7, vi (a0.length : Int)), (8, vi v2), (5, vi v2)] [some (.row 1 [.fn (.func 153) [] [.ptr 1 0 0, .ptr 2 0 0]]), some (.row 1 [.fn (.func 87) [] []]), some (.row 1 [.own 3 0 a1.length]), some (.row 1 (List.map vt a1))] ?_
    refine sj ?_
    refine rn 3 [(0, eS 6 eTask a0), (1, .fn (.func 156) [] [.ptr 0 0 0]), (7, vi (a0.length : Int)), (8, vi v2), (5, vi v2), (11, .fn (.func 156) [] [.ptr 0 0 0]), (12, eS 6 eTask a0), (13, vi v2)] [some (.row 1 [.fn (.func 153) [] [.ptr 1 0 0, .ptr 2 0 0]]), some (.row 1 [.fn (.func 87) [] []]), some (.row 1 [.own 3 0 a1.length]), some (.row 1 (List.map vt a1))] ?_
    refine jv (.fptr 6 (List.map eTask a0) v2 0) (cy (I0 14 (.iaddr 6 (.t 12) (.t 13)))) (ok_iaddr_m (j := v2) rfl rfl rfl c1) rfl ?_
    refine jv (.agg [vt ((ix a0 v2).Name), vi ((ix a0 v2).Cents), vi ((ix a0 v2).Hours), eS 1 vt ((ix a0 v2).Needs), eS 1 (eS 1 vt) ((ix a0 v2).OneOf), eS 2 ePartCount ((ix a0 v2).Parts)]) (cy (I0 15 (.load true 6 (.t 14)))) (ok_load_fm (v := .agg [vt ((ix a0 v2).Name), vi ((ix a0 v2).Cents), vi ((ix a0 v2).Hours), eS 1 vt ((ix a0 v2).Needs), eS 1 (eS 1 vt) ((ix a0 v2).OneOf), eS 2 ePartCount ((ix a0 v2).Parts)]) rfl c1 rfl) rfl ?_
    obtain ⟨y3, hy3, h⟩ := bind_some h
    refine RegJ.op (Op1.dyn (y' := vb y3) (obx := [some (.row 1 [.fn (.func 153) [] [.ptr 1 0 0, .ptr 2 0 0]]), some (.row 1 [.fn (.func 87) [] []]), some (.row 1 [.own 3 0 a1.length]), some (.row 1 (List.map vt a1))]) (oby := [some (.row 1 [.fn (.func 153) [] [.ptr 1 0 0, .ptr 2 0 0]]), some (.row 1 [.fn (.func 87) [] []]), some (.row 1 [.own 3 0 a1.length]), some (.row 1 (List.map vt a1))]) (ob2 := [some (.row 1 [.fn (.func 153) [] [.ptr 1 0 0, .ptr 2 0 0]]), some (.row 1 [.fn (.func 87) [] []]), some (.row 1 [.own 3 0 a1.length]), some (.row 1 (List.map vt a1))]) _ _ _ (cy (I0 16 (.dyn (.t 11) [(.t 15)]))) rfl rfl (restore_list_order_f2_2_ok n (ix a0 v2) a1 y3 hy3) [0, 1, 2, 3] (by kernel_rfl) (.cons rfl (.cons rfl .nil)) (by kernel_rfl) (by kernel_rfl) (.cons rfl (.cons rfl (.cons rfl (.same (row_ren vt_frz _ _ _) .nil)))) (by kernel_rfl) (.cons rfl (.cons rfl (.cons rfl (.same (row_ren vt_frz _ _ _) .nil)))) (by kernel_rfl)) ?_
    refine jp [(0, eS 6 eTask a0), (1, .fn (.func 156) [] [.ptr 0 0 0]), (7, vi (a0.length : Int)), (8, vi v2), (5, vi v2), (16, vb y3)] ?_
    refine TriE.cond (b := y3) rfl (fun c2 => ?_) (fun c2 => ?_)
    · have h := cond_t h c2
      refine sr [(4, vi v2)] [some (.row 1 [.fn (.func 153) [] [.ptr 1 0 0, .ptr 2 0 0]]), some (.row 1 [.fn (.func 87) [] []]), some (.row 1 [.own 3 0 a1.length]), some (.row 1 (List.map vt a1))] ?_
      refine TriE.ret ?_
      have h := Option.some.inj h
      subst h
      exact DoneS.ret (S' := ⟨[(4, vi v2)], [some (.row 1 [.fn (.func 153) [] [.ptr 1 0 0, .ptr 2 0 0]]), some (.row 1 [.fn (.func 87) [] []]), some (.row 1 [.own 3 0 a1.length]), some (.row 1 (List.map vt a1))]⟩) Sees.refl rfl rfl
    have h := cond_f h c2
    refine TriE.skip ?_
    refine TriE.regJ ?_
    obtain ⟨c3, h⟩ := chk_some h
    refine jv (vi ((v2 + 1 : Nat) : Int)) (cy (I0 18 (.bin .add false (.t 8) (.c (.p (.int .i64 1)))))) (r_addn (i := v2) (j := 1) rfl rfl c3) rfl ?_
    refine jq 1 [(0, eS 6 eTask a0), (1, .fn (.func 156) [] [.ptr 0 0 0]), (7, vi (a0.length : Int)), (8, vi ((v2 + 1 : Nat) : Int))] [some (.row 1 [.fn (.func 153) [] [.ptr 1 0 0, .ptr 2 0 0]]), some (.row 1 [.fn (.func 87) [] []]), some (.row 1 [.own 3 0 a1.length]), some (.row 1 (List.map vt a1))] ?_
    exact Vs.intro sy ⟨(v2 + 1), rfl, h⟩
  have h := cond_f h c1
  refine TriE.exit ?_
  exact Vs.intro sy ⟨(), rfl, h⟩
theorem restore_list_order_ok (n : Nat) (a0 : List Task) (r : (List Str)) (h : restore_list_order n a0 = some r) : FnL Tryz.prog 86 [eS 6 eTask a0, .fn (.func 87) [] []] [] (eS 1 vt r) [] := by
  dsimp only [restore_list_order] at h
  refine FnL.ofS (ts := [4]) Tryz.call86 Tryz.func86 rfl rfl (Nat.le_of_ble_eq_true rfl) (Nat.le_of_ble_eq_true rfl) (fun j h => absurd h (Nat.not_lt_zero j)) ?_
  refine sr [(0, eS 6 eTask a0), (3, .ptr 0 0 0)] [some (.row 1 [.fn (.func 87) [] []])] ?_
  refine sr [(0, eS 6 eTask a0), (3, .ptr 0 0 0), (5, .ptr 1 0 0)] [some (.row 1 [.fn (.func 87) [] []]), some (.row 1 [.emp])] ?_
  refine sr [(0, eS 6 eTask a0), (5, .ptr 1 0 0), (6, .ptr 2 0 0)] [some (.row 1 [.fn (.func 87) [] []]), some (.row 1 [.emp]), some (.row 1 [.fn (.func 153) [] [.ptr 0 0 0, .ptr 1 0 0]])] ?_
  refine TriE.block ?_
  refine TriE.sees (S' := ⟨[(0, eS 6 eTask a0), (5, .ptr 1 0 0), (6, .ptr 2 0 0)], [some (.row 1 [.fn (.func 87) [] []]), some (.row 1 [.own 3 0 ([] : List Str).length]), some (.row 1 [.fn (.func 153) [] [.ptr 0 0 0, .ptr 1 0 0]]), some (.row 1 (List.map vt ([] : List Str)))]⟩) (Sees.trans (Sees.co (fr' := [(0, eS 6 eTask a0), (5, .ptr 1 0 0), (6, .ptr 2 0 0)]) (ob' := [some (.row 1 [.fn (.func 87) [] []]), some (.row 1 [.own 3 0 0]), some (.row 1 [.fn (.func 153) [] [.ptr 0 0 0, .ptr 1 0 0]])]) (.cons .same (.cons .same (.cons .same .nil))) (.same (.cell (.cons .own .nil) rfl (.same .nil))) 1) sy) ?_
  refine TriE.loopN h (fun (v2 : (List Str)) => St.mk [(0, eS 6 eTask a0), (5, .ptr 1 0 0), (6, .ptr 2 0 0)] [some (.row 1 [.fn (.func 87) [] []]), some (.row 1 [.own 3 0 v2.length]), some (.row 1 [.fn (.func 153) [] [.ptr 0 0 0, .ptr 1 0 0]]), some (.row 1 (List.map vt v2))]) rfl ?_
  clear h
  rintro back v2 h
  dsimp only [restore_list_order_L1] at h
  refine TriE.block ?_
  refine sj ?_
  refine rn 2 [(0, eS 6 eTask a0), (5, .ptr 1 0 0), (6, .ptr 2 0 0), (9, eS 6 eTask a0), (10, .fn (.func 156) [] [.ptr 2 0 0])] [some (.row 1 [.fn (.func 87) [] []]), some (.row 1 [.own 3 0 v2.length]), some (.row 1 [.fn (.func 153) [] [.ptr 0 0 0, .ptr 1 0 0]]), some (.row 1 (List.map vt v2))] ?_
  obtain ⟨y3, hy3, h⟩ := bind_some h
  refine RegJ.op (Op1.call (y' := vi y3) (obx := [some (.row 1 [.fn (.func 153) [] [.ptr 0 0 0, .ptr 1 0 0]]), some (.row 1 [.fn (.func 87) [] []]), some (.row 1 [.own 3 0 v2.length]), some (.row 1 (List.map vt v2))]) (oby := [some (.row 1 [.fn (.func 153) [] [.ptr 0 0 0, .ptr 1 0 0]]), some (.row 1 [.fn (.func 87) [] []]), some (.row 1 [.own 3 0 v2.length]), some (.row 1 (List.map vt v2))]) (ob2 := [some (.row 1 [.fn (.func 87) [] []]), some (.row 1 [.own 3 0 v2.length]), some (.row 1 [.fn (.func 153) [] [.ptr 0 0 0, .ptr 1 0 0]]), some (.row 1 (List.map vt v2))]) _ _ (cy (I0 11 (.call 155 [(.t 9), (.t 10)]))) rfl (slices_IndexFunc_Task_3_ok n a0 v2 y3 hy3) [2, 0, 1, 3] (by kernel_rfl) (.cons rfl (.cons rfl (.cons rfl .nil))) (by kernel_rfl) (by kernel_rfl) (.cons rfl (.cons rfl (.cons rfl (.same (row_ren vt_frz _ _ _) .nil)))) (by kernel_rfl) (.cons rfl (.cons rfl (.cons rfl (.same (row_ren vt_frz _ _ _) .nil)))) (by kernel_rfl)) ?_
  refine jq 1 [(0, eS 6 eTask a0), (5, .ptr 1 0 0), (6, .ptr 2 0 0), (7, vi y3)] [some (.row 1 [.fn (.func 87) [] []]), some (.row 1 [.own 3 0 v2.length]), some (.row 1 [.fn (.func 153) [] [.ptr 0 0 0, .ptr 1 0 0]]), some (.row 1 (List.map vt v2))] ?_
  refine TriE.seq ?_
  refine sr [(0, eS 6 eTask a0), (5, .ptr 1 0 0), (6, .ptr 2 0 0), (7, vi y3), (13, vb (decide (y3 < (0 : Int))))] [some (.row 1 [.fn (.func 87) [] []]), some (.row 1 [.own 3 0 v2.length]), some (.row 1 [.fn (.func 153) [] [.ptr 0 0 0, .ptr 1 0 0]]), some (.row 1 (List.map vt v2))] ?_
  refine TriE.cond (b := decide (y3 < (0 : Int))) rfl (fun c1 => ?_) (fun c1 => ?_)
  · have h := cond_t h c1
    refine sr [(4, .own 3 0 v2.length)] [some (.row 1 [.fn (.func 87) [] []]), some (.row 1 [.own 3 0 v2.length]), some (.row 1 [.fn (.func 153) [] [.ptr 0 0 0, .ptr 1 0 0]]), some (.row 1 (List.map vt v2))] ?_
    refine TriE.ret ?_
    have h := Option.some.inj h
    subst h
    exact DoneS.ret (S' := ⟨[(4, eS 1 vt v2)], []⟩) (Sees.trans (Sees.freeze 3 (fr' := [(4, eS 1 vt v2)]) (ob' := [some (.row 1 [.fn (.func 87) [] []]), some (.row 1 [.own 3 0 v2.length]), some (.row 1 [.fn (.func 153) [] [.ptr 0 0 0, .ptr 1 0 0]]), none]) rfl (frz_row vt_frzE _) (.cons (frz_full rfl) .nil) rfl) (sc [] (by decide) (by kernel_rfl) ObRen.nil rfl rfl)) rfl rfl
  have h := cond_f h c1
  refine TriE.skip ?_
  refine TriE.sees (Sees.less (fr' := [(0, eS 6 eTask a0), (5, .ptr 1 0 0), (6, .ptr 2 0 0), (7, vi y3)]) (.cons rfl (.cons rfl (.cons rfl (.cons rfl .nil))))) ?_
  refine TriE.draw (by kernel_rfl) ?_
  refine RegD.run 3 [(17, vi y3), (16, eS 6 eTask a0), (15, .own 3 0 v2.length), (0, eS 6 eTask a0), (5, .ptr 1 0 0), (6, .ptr 2 0 0), (7, vi y3)] [some (.row 1 [.fn (.func 87) [] []]), some (.row 1 [.own 3 0 v2.length]), some (.row 1 [.fn (.func 153) [] [.ptr 0 0 0, .ptr 1 0 0]]), some (.row 1 (List.map vt v2)), none, none, none] (by kernel_rfl) ?_
  obtain ⟨c2, h⟩ := chk_some h
  refine dv (.fptr 6 (List.map eTask a0) y3.toNat 0) (cy (I0 18 (.iaddr 6 (.t 16) (.t 17)))) (ok_iaddr_m (j := y3.toNat) rfl rfl (inB_to c2) (inB_lt c2)) rfl ?_
  refine RegD.run 1 [(19, .fptr 6 (List.map eTask a0) y3.toNat 0), (18, .fptr 6 (List.map eTask a0) y3.toNat 0), (17, vi y3), (16, eS 6 eTask a0), (15, .own 3 0 v2.length), (0, eS 6 eTask a0), (5, .ptr 1 0 0), (6, .ptr 2 0 0), (7, vi y3)] [some (.row 1 [.fn (.func 87) [] []]), some (.row 1 [.own 3 0 v2.length]), some (.row 1 [.fn (.func 153) [] [.ptr 0 0 0, .ptr 1 0 0]]), some (.row 1 (List.map vt v2)), none, none, none, none, none] (by kernel_rfl) ?_
  obtain ⟨c3, h⟩ := chk_some h
  refine dv (vt ((ix a0 y3.toNat).Name)) (cy (I0 20 (.load false 1 (.t 19)))) (ok_load_fm (v := vt ((ix a0 y3.toNat).Name)) rfl c3 rfl) rfl ?_
  refine RegD.run 1 [(21, .own 10 0 1), (20, vt ((ix a0 y3.toNat).Name)), (19, .fptr 6 (List.map eTask a0) y3.toNat 0), (18, .fptr 6 (List.map eTask a0) y3.toNat 0), (17, vi y3), (16, eS 6 eTask a0), (15, .own 3 0 v2.length), (0, eS 6 eTask a0), (5, .ptr 1 0 0), (6, .ptr 2 0 0), (7, vi y3)] [some (.row 1 [.fn (.func 87) [] []]), some (.row 1 [.own 3 0 v2.length]), some (.row 1 [.fn (.func 153) [] [.ptr 0 0 0, .ptr 1 0 0]]), some (.row 1 (List.map vt v2)), none, none, none, none, none, none, some (.row 1 [vt ((ix a0 y3.toNat).Name)])] (by kernel_rfl) ?_
  obtain ⟨c4, h⟩ := chk_some h
  refine de (.own 11 0 ((v2 ++ ([(ix a0 y3.toNat).Name] : List Str)).length)) [some (.row 1 [.fn (.func 87) [] []]), some (.row 1 [.own 3 0 v2.length]), some (.row 1 [.fn (.func 153) [] [.ptr 0 0 0, .ptr 1 0 0]]), none, none, none, none, none, none, none, some (.row 1 [vt ((ix a0 y3.toNat).Name)]), some (.row 1 (List.map vt (v2 ++ ([(ix a0 y3.toNat).Name] : List Str))))] (cy (I0 22 (.app 1 16 (.t 15) (.t 21)))) (ok_app_own (l := v2) (l2 := ([(ix a0 y3.toNat).Name] : List Str)) (e := vt) (u := .own 10 0 1) rfl rfl rfl rfl rfl c4) rfl rfl rfl ?_
  refine RegD.run 1 [(22, .own 11 0 ((v2 ++ ([(ix a0 y3.toNat).Name] : List Str)).length)), (21, .own 10 0 1), (20, vt ((ix a0 y3.toNat).Name)), (19, .fptr 6 (List.map eTask a0) y3.toNat 0), (18, .fptr 6 (List.map eTask a0) y3.toNat 0), (17, vi y3), (16, eS 6 eTask a0), (15, .own 3 0 v2.length), (0, eS 6 eTask a0), (5, .ptr 1 0 0), (6, .ptr 2 0 0), (7, vi y3)] [some (.row 1 [.fn (.func 87) [] []]), some (.row 1 [.own 11 0 ((v2 ++ ([(ix a0 y3.toNat).Name] : List Str)).length)]), some (.row 1 [.fn (.func 153) [] [.ptr 0 0 0, .ptr 1 0 0]]), none, none, none, none, none, none, none, some (.row 1 [vt ((ix a0 y3.toNat).Name)]), some (.row 1 (List.map vt (v2 ++ ([(ix a0 y3.toNat).Name] : List Str)))), none] (by kernel_rfl) ?_
  refine RegD.done rfl (by kernel_rfl) (S' := ⟨[(0, eS 6 eTask a0), (5, .ptr 1 0 0), (6, .ptr 2 0 0)], [some (.row 1 [.fn (.func 87) [] []]), some (.row 1 [.own 3 0 ((v2 ++ ([(ix a0 y3.toNat).Name] : List Str)).length)]), some (.row 1 [.fn (.func 153) [] [.ptr 0 0 0, .ptr 1 0 0]]), some (.row 1 (List.map vt (v2 ++ ([(ix a0 y3.toNat).Name] : List Str))))]⟩) (sc [0, 1, 2, 11] (by decide) (by kernel_rfl) (.cons rfl (.cons rfl (.cons rfl (obRen_row vt_frz rfl .nil)))) rfl rfl) ?_
  exact Vs.intro Sees.refl ⟨(v2 ++ ([(ix a0 y3.toNat).Name] : List Str)), rfl, h⟩
theorem restore_CheckTasks_ok (n : Nat) (a0 : List Task) (r : Int) (h : restore_CheckTasks n a0 = some r) : FnL Tryz.prog 19 [eS 6 eTask a0] [] (vi r) [] := by
  dsimp only [restore_CheckTasks] at h
  refine FnL.ofS (ts := [2]) Tryz.call19 Tryz.func19 rfl rfl (Nat.le_of_ble_eq_true rfl) (Nat.le_of_ble_eq_true rfl) (fun j h => absurd h (Nat.not_lt_zero j)) ?_
  refine sr [(0, eS 6 eTask a0)] [] ?_
  refine TriE.seq ?_
  refine sj ?_
  refine rn 1 [(0, eS 6 eTask a0), (5, eS 6 eTask a0)] [] ?_
  refine jv (vi (a0.length : Int)) (cy (I0 6 (.len 0 (.t 5)))) (ok_len_m rfl) rfl ?_
  refine jv (vb (decide (60 < a0.length))) (cy (I0 7 (.bin .gtr false (.t 6) (.c (.p (.int .i64 60)))))) (n_gtr (i := a0.length) (j := 60) rfl rfl) rfl ?_
  refine jp [(0, eS 6 eTask a0), (7, vb (decide (60 < a0.length)))] ?_
  refine TriE.cond (b := decide (60 < a0.length)) rfl (fun c1 => ?_) (fun c1 => ?_)
  · have h := cond_t h c1
    refine sr [(2, vi 8)] [] ?_
    refine TriE.ret ?_
    have h := Option.some.inj h
    subst h
    exact DoneS.ret (S' := ⟨[(2, vi 8)], []⟩) Sees.refl rfl rfl
  have h := cond_f h c1
  refine TriE.skip ?_
  refine TriE.seqK h (fun (_ : Unit) => St.mk [(0, eS 6 eTask a0)] []) ?_ ?_
  · rintro ⟨⟩ h
    refine TriE.seq ?_
    refine sj ?_
    refine rn 1 [(0, eS 6 eTask a0), (20, eS 6 eTask a0)] [] ?_
    obtain ⟨y4, hy4, h⟩ := bind_some h
    refine RegJ.op (Op1.call (y' := eS 1 vt y4) (obx := []) (oby := []) (ob2 := []) _ _ (cy (I0 21 (.call 86 [(.t 20), (.c (.fn (.func 87) [] []))]))) rfl (restore_list_order_ok n a0 y4 hy4) [] (by kernel_rfl) (.cons rfl (.cons rfl (.cons rfl .nil))) (by kernel_rfl) (by kernel_rfl) ObsRen.nil (by kernel_rfl) ObsRen.nil (by kernel_rfl)) ?_
    refine jv (vi (y4.length : Int)) (cy (I0 22 (.len 0 (.t 21)))) (ok_len_m rfl) rfl ?_
    refine rn 1 [(22, vi (y4.length : Int)), (23, eS 6 eTask a0)] [] ?_
    refine jv (vi (a0.length : Int)) (cy (I0 24 (.len 0 (.t 23)))) (ok_len_m rfl) rfl ?_
    refine jv (vb (decide (y4.length < a0.length))) (cy (I0 25 (.bin .lss false (.t 22) (.t 24)))) (n_lss (i := y4.length) (j := a0.length) rfl rfl) rfl ?_
    refine jp [(25, vb (decide (y4.length < a0.length)))] ?_
    refine TriE.cond (b := decide (y4.length < a0.length)) rfl (fun c5 => ?_) (fun c5 => ?_)
    · have h := cond_t h c5
      refine sr [(2, vi 21)] [] ?_
      refine TriE.ret ?_
      have h := Option.some.inj h
      subst h
      exact DoneS.ret (S' := ⟨[(2, vi 21)], []⟩) Sees.refl rfl rfl
    have h := cond_f h c5
    refine TriE.skip ?_
    refine sr [(2, vi 0)] [] ?_
    refine TriE.ret ?_
    have h := Option.some.inj h
    subst h
    exact DoneS.ret (S' := ⟨[(2, vi 0)], []⟩) Sees.refl rfl rfl
  intro k1 h
  refine sj ?_
  refine rn 1 [(0, eS 6 eTask a0), (8, eS 6 eTask a0)] [] ?_
  refine jv (vi (a0.length : Int)) (cy (I0 9 (.len 0 (.t 8)))) (ok_len_m rfl) rfl ?_
  refine jq 1 [(0, eS 6 eTask a0), (9, vi (a0.length : Int)), (10, vi 0)] [] ?_
  refine TriE.block ?_
  refine TriE.sees (S' := ⟨[(0, eS 6 eTask a0), (9, vi (a0.length : Int)), (10, vi 0)], []⟩) sy ?_
  refine TriE.loopN h (fun (v2 : Nat) => St.mk [(0, eS 6 eTask a0), (9, vi (a0.length : Int)), (10, vi v2)] []) rfl ?_
  clear h
  rintro back v2 h
  dsimp only [restore_CheckTasks_L1] at h
  refine sj ?_
  refine jv (vb (decide (v2 < a0.length))) (cy (I0 11 (.bin .lss false (.t 10) (.t 9)))) (n_lss (i := v2) (j := a0.length) rfl rfl) rfl ?_
  refine jp [(0, eS 6 eTask a0), (9, vi (a0.length : Int)), (10, vi v2), (11, vb (decide (v2 < a0.length)))] ?_
  refine TriE.seq ?_
  refine TriE.cond (b := decide (v2 < a0.length)) rfl (fun c2 => ?_) (fun c2 => ?_)
  · have h := cond_t h c2
    refine TriE.skip ?_
    refine TriE.seq ?_
    refine TriE.block ?_
    refine sr [(0, eS 6 eTask a0), (9, vi (a0.length : Int)), (10, vi v2), (3, vi v2)] [] ?_
    refine sj ?_
    refine rn 2 [(0, eS 6 eTask a0), (9, vi (a0.length : Int)), (10, vi v2), (13, eS 6 eTask a0), (14, vi v2)] [] ?_
    obtain ⟨y3, hy3, h⟩ := bind_some h
    refine RegJ.op (Op1.call (y' := vi y3) (obx := []) (oby := []) (ob2 := []) _ _ (cy (I0 15 (.call 85 [(.t 13), (.t 14)]))) rfl (restore_list_checkTask_ok n a0 (v2 : Int) y3 hy3) [] (by kernel_rfl) (.cons rfl (.cons rfl (.cons rfl .nil))) (by kernel_rfl) (by kernel_rfl) ObsRen.nil (by kernel_rfl) ObsRen.nil (by kernel_rfl)) ?_
    refine jq 1 [(0, eS 6 eTask a0), (9, vi (a0.length : Int)), (10, vi v2), (4, vi y3)] [] ?_
    refine sr [(0, eS 6 eTask a0), (9, vi (a0.length : Int)), (10, vi v2), (4, vi y3), (17, vb (y3 != (0 : Int)))] [] ?_
    refine TriE.cond (b := (y3 != (0 : Int))) rfl (fun c3 => ?_) (fun c3 => ?_)
    · have h := cond_t h c3
      refine sr [(2, vi y3)] [] ?_
      refine TriE.ret ?_
      have h := Option.some.inj h
      subst h
      exact DoneS.ret (S' := ⟨[(2, vi y3)], []⟩) Sees.refl rfl rfl
    have h := cond_f h c3
    refine TriE.skip ?_
    refine TriE.regJ ?_
    obtain ⟨c4, h⟩ := chk_some h
    refine jv (vi ((v2 + 1 : Nat) : Int)) (cy (I0 19 (.bin .add false (.t 10) (.c (.p (.int .i64 1)))))) (r_addn (i := v2) (j := 1) rfl rfl c4) rfl ?_
    refine jq 1 [(0, eS 6 eTask a0), (9, vi (a0.length : Int)), (10, vi ((v2 + 1 : Nat) : Int))] [] ?_
    exact Vs.intro sy ⟨(v2 + 1), rfl, h⟩
  have h := cond_f h c2
  refine TriE.exit ?_
  exact Vs.intro sy ⟨(), rfl, h⟩
theorem restore_stocked_f1_ok (n : Nat) (a0 : Stocked) (a1 : Str) (r : Unit) (h : restore_stocked_f1 n a0 a1 = some r) : FnL Tryz.prog 158 [.agg [vt a0.Part, vi a0.Cents, vi a0.Count], .ptr 0 0 0] [some (.row 1 [vt a1])] (vb (a0.Part == a1)) [some (.row 1 [vt a1])] := by
  dsimp only [restore_stocked_f1] at h
  refine FnL.ofS (ts := [3]) Tryz.call158 Tryz.func158 rfl rfl (Nat.le_of_ble_eq_true rfl) (Nat.le_of_ble_eq_true rfl) (hall_of (.cons rfl .nil)) ?_
  refine sr [(1, .ptr 0 0 0), (2, .ptr 1 0 0)] [some (.row 1 [vt a1]), some (.row 3 [.agg [vt a0.Part, vi a0.Cents, vi a0.Count]])] ?_
  refine sr [(3, vb (a0.Part == a1))] [some (.row 1 [vt a1]), some (.row 3 [.agg [vt a0.Part, vi a0.Cents, vi a0.Count]])] ?_
  refine TriE.ret ?_
  have h := Option.some.inj h
  subst h
  exact DoneS.ret (S' := ⟨[(3, vb (a0.Part == a1))], [some (.row 1 [vt a1])]⟩) (sc [0] (by decide) (by kernel_rfl) (.cons rfl .nil) rfl rfl) rfl rfl
theorem slices_IndexFunc_Stocked_ok (n : Nat) (a0 : List Stocked) (a1 : Str) (r : Int) (h : slices_IndexFunc_Stocked n a0 a1 = some r) : FnL Tryz.prog 157 [eS 3 eStocked a0, .fn (.func 158) [] [.ptr 0 0 0]] [some (.row 1 [vt a1])] (vi r) [some (.row 1 [vt a1])] := by
  dsimp only [slices_IndexFunc_Stocked] at h
  refine FnL.ofS (ts := [4]) Tryz.call157 Tryz.func157 rfl rfl (Nat.le_of_ble_eq_true rfl) (Nat.le_of_ble_eq_true rfl) (hall_of (.cons rfl .nil)) ?_
  refine sr [(0, eS 3 eStocked a0), (1, .fn (.func 158) [] [.ptr 0 0 0])] [some (.row 1 [vt a1])] ?_
  refine TriE.seqK h (fun (_ : Unit) => St.mk [] [some (.row 1 [vt a1])]) ?_ ?_
  · rintro ⟨⟩ h
    refine sr [(4, vi (-1))] [some (.row 1 [vt a1])] ?_
    refine TriE.ret ?_
    have h := Option.some.inj h
    subst h
    exact DoneS.ret (S' := ⟨[(4, vi (-1))], [some (.row 1 [vt a1])]⟩) Sees.refl rfl rfl
  intro k1 h
  refine sj ?_
  refine rn 1 [(0, eS 3 eStocked a0), (1, .fn (.func 158) [] [.ptr 0 0 0]), (6, eS 3 eStocked a0)] [some (.row 1 [vt a1])] ?_
  refine jv (vi (a0.length : Int)) (cy (I0 7 (.len 0 (.t 6)))) (ok_len_m rfl) rfl ?_
  refine jq 1 [(0, eS 3 eStocked a0), (1, .fn (.func 158) [] [.ptr 0 0 0]), (7, vi (a0.length : Int)), (8, vi 0)] [some (.row 1 [vt a1])] ?_
  refine TriE.block ?_
  refine TriE.sees (S' := ⟨[(0, eS 3 eStocked a0), (1, .fn (.func 158) [] [.ptr 0 0 0]), (7, vi (a0.length : Int)), (8, vi 0)], [some (.row 1 [vt a1])]⟩) sy ?_
  refine TriE.loopN h (fun (v2 : Nat) => St.mk [(0, eS 3 eStocked a0), (1, .fn (.func 158) [] [.ptr 0 0 0]), (7, vi (a0.length : Int)), (8, vi v2)] [some (.row 1 [vt a1])]) rfl ?_
  clear h
  rintro back v2 h
  dsimp only [slices_IndexFunc_Stocked_L1] at h
  refine sj ?_
  refine jv (vb (decide (v2 < a0.length))) (cy (I0 9 (.bin .lss false (.t 8) (.t 7)))) (n_lss (i := v2) (j := a0.length) rfl rfl) rfl ?_
  refine jp [(0, eS 3 eStocked a0), (1, .fn (.func 158) [] [.ptr 0 0 0]), (7, vi (a0.length : Int)), (8, vi v2), (9, vb (decide (v2 < a0.length)))] ?_
  refine TriE.seq ?_
  refine TriE.cond (b := decide (v2 < a0.length)) rfl (fun c1 => ?_) (fun c1 => ?_)
  · have h := cond_t h c1
    refine TriE.skip ?_
    refine TriE.seq ?_
    refine TriE.block ?_
    refine sr [(0, eS 3 eStocked a0), (1, .fn (.func 158) [] [.ptr 0 0 0]), (7, vi (a0.length : Int)), (8, vi v2), (5, vi v2)] [some (.row 1 [vt a1])] ?_
    refine sj ?_
    refine rn 3 [(0, eS 3 eStocked a0), (1, .fn (.func 158) [] [.ptr 0 0 0]), (7, vi (a0.length : Int)), (8, vi v2), (5, vi v2), (11, .fn (.func 158) [] [.ptr 0 0 0]), (12, eS 3 eStocked a0), (13, vi v2)] [some (.row 1 [vt a1])] ?_
    refine jv (.fptr 3 (List.map eStocked a0) v2 0) (cy (I0 14 (.iaddr 3 (.t 12) (.t 13)))) (ok_iaddr_m (j := v2) rfl rfl rfl c1) rfl ?_
    refine jv (.agg [vt ((ix a0 v2).Part), vi ((ix a0 v2).Cents), vi ((ix a0 v2).Count)]) (cy (I0 15 (.load true 3 (.t 14)))) (ok_load_fm (v := .agg [vt ((ix a0 v2).Part), vi ((ix a0 v2).Cents), vi ((ix a0 v2).Count)]) rfl c1 rfl) rfl ?_
    obtain ⟨y3, hy3, h⟩ := bind_some h
    refine RegJ.op (Op1.dyn (y' := vb ((ix a0 v2).Part == a1)) (obx := [some (.row 1 [vt a1])]) (oby := [some (.row 1 [vt a1])]) (ob2 := [some (.row 1 [vt a1])]) _ _ _ (cy (I0 16 (.dyn (.t 11) [(.t 15)]))) rfl rfl (restore_stocked_f1_ok n (ix a0 v2) a1 y3 hy3) [0] (by kernel_rfl) (.cons rfl (.cons rfl .nil)) (by kernel_rfl) (by kernel_rfl) (.cons rfl .nil) (by kernel_rfl) (.cons rfl .nil) (by kernel_rfl)) ?_
    refine jp [(0, eS 3 eStocked a0), (1, .fn (.func 158) [] [.ptr 0 0 0]), (7, vi (a0.length : Int)), (8, vi v2), (5, vi v2), (16, vb ((ix a0 v2).Part == a1))] ?_
    refine TriE.cond (b := ((ix a0 v2).Part == a1)) rfl (fun c2 => ?_) (fun c2 => ?_)
    · have h := cond_t h c2
      refine sr [(4, vi v2)] [some (.row 1 [vt a1])] ?_
      refine TriE.ret ?_
      have h := Option.some.inj h
      subst h
      exact DoneS.ret (S' := ⟨[(4, vi v2)], [some (.row 1 [vt a1])]⟩) Sees.refl rfl rfl
    have h := cond_f h c2
    refine TriE.skip ?_
    refine TriE.regJ ?_
    obtain ⟨c3, h⟩ := chk_some h
    refine jv (vi ((v2 + 1 : Nat) : Int)) (cy (I0 18 (.bin .add false (.t 8) (.c (.p (.int .i64 1)))))) (r_addn (i := v2) (j := 1) rfl rfl c3) rfl ?_
    refine jq 1 [(0, eS 3 eStocked a0), (1, .fn (.func 158) [] [.ptr 0 0 0]), (7, vi (a0.length : Int)), (8, vi ((v2 + 1 : Nat) : Int))] [some (.row 1 [vt a1])] ?_
    exact Vs.intro sy ⟨(v2 + 1), rfl, h⟩
  have h := cond_f h c1
  refine TriE.exit ?_
  exact Vs.intro sy ⟨(), rfl, h⟩
theorem restore_stocked_ok (n : Nat) (a0 : List Stocked) (a1 : Str) (r : Int) (h : restore_stocked n a0 a1 = some r) : FnL Tryz.prog 90 [eS 3 eStocked a0, vt a1] [] (vi r) [] := by
  dsimp only [restore_stocked] at h
  refine FnL.ofS (ts := [4]) Tryz.call90 Tryz.func90 rfl rfl (Nat.le_of_ble_eq_true rfl) (Nat.le_of_ble_eq_true rfl) (fun j h => absurd h (Nat.not_lt_zero j)) ?_
  refine sr [(0, eS 3 eStocked a0), (3, .ptr 0 0 0)] [some (.row 1 [vt a1])] ?_
  refine sj ?_
  refine rn 2 [(5, eS 3 eStocked a0), (6, .fn (.func 158) [] [.ptr 0 0 0])] [some (.row 1 [vt a1])] ?_
  obtain ⟨y1, hy1, h⟩ := bind_some h
  refine RegJ.op (Op1.call (y' := vi y1) (obx := [some (.row 1 [vt a1])]) (oby := [some (.row 1 [vt a1])]) (ob2 := [some (.row 1 [vt a1])]) _ _ (cy (I0 7 (.call 157 [(.t 5), (.t 6)]))) rfl (slices_IndexFunc_Stocked_ok n a0 a1 y1 hy1) [0] (by kernel_rfl) (.cons rfl (.cons rfl (.cons rfl .nil))) (by kernel_rfl) (by kernel_rfl) (.cons rfl .nil) (by kernel_rfl) (.cons rfl .nil) (by kernel_rfl)) ?_
  refine jq 1 [(4, vi y1)] [some (.row 1 [vt a1])] ?_
  refine TriE.ret ?_
  have h := Option.some.inj h
  subst h
  exact DoneS.ret (S' := ⟨[(4, vi y1)], []⟩) (sc [] (by decide) (by kernel_rfl) ObRen.nil rfl rfl) rfl rfl
theorem restore_CheckStock_ok (n : Nat) (a0 : List Stocked) (r : Int) (h : restore_CheckStock n a0 = some r) : FnL Tryz.prog 22 [eS 3 eStocked a0] [] (vi r) [] := by
  dsimp only [restore_CheckStock] at h
  refine FnL.ofS (ts := [2]) Tryz.call22 Tryz.func22 rfl rfl (Nat.le_of_ble_eq_true rfl) (Nat.le_of_ble_eq_true rfl) (fun j h => absurd h (Nat.not_lt_zero j)) ?_
  refine sr [(0, eS 3 eStocked a0)] [] ?_
  refine TriE.seq ?_
  refine sj ?_
  refine rn 1 [(0, eS 3 eStocked a0), (5, eS 3 eStocked a0)] [] ?_
  refine jv (vi (a0.length : Int)) (cy (I0 6 (.len 0 (.t 5)))) (ok_len_m rfl) rfl ?_
  refine jv (vb (decide (60 < a0.length))) (cy (I0 7 (.bin .gtr false (.t 6) (.c (.p (.int .i64 60)))))) (n_gtr (i := a0.length) (j := 60) rfl rfl) rfl ?_
  refine jp [(0, eS 3 eStocked a0), (7, vb (decide (60 < a0.length)))] ?_
  refine TriE.cond (b := decide (60 < a0.length)) rfl (fun c1 => ?_) (fun c1 => ?_)
  · have h := cond_t h c1
    refine sr [(2, vi 8)] [] ?_
    refine TriE.ret ?_
    have h := Option.some.inj h
    subst h
    exact DoneS.ret (S' := ⟨[(2, vi 8)], []⟩) Sees.refl rfl rfl
  have h := cond_f h c1
  refine TriE.skip ?_
  refine TriE.seqK h (fun (_ : Unit) => St.mk [] []) ?_ ?_
  · rintro ⟨⟩ h
    refine sr [(2, vi 0)] [] ?_
    refine TriE.ret ?_
    have h := Option.some.inj h
    subst h
    exact DoneS.ret (S' := ⟨[(2, vi 0)], []⟩) Sees.refl rfl rfl
  intro k1 h
  refine sj ?_
  refine rn 1 [(0, eS 3 eStocked a0), (8, eS 3 eStocked a0)] [] ?_
  refine jv (vi (a0.length : Int)) (cy (I0 9 (.len 0 (.t 8)))) (ok_len_m rfl) rfl ?_
  refine jq 1 [(0, eS 3 eStocked a0), (8, eS 3 eStocked a0), (9, vi (a0.length : Int)), (10, vi 0)] [] ?_
  refine TriE.block ?_
  refine TriE.sees (S' := ⟨[(0, eS 3 eStocked a0), (8, eS 3 eStocked a0), (9, vi (a0.length : Int)), (10, vi 0)], []⟩) sy ?_
  refine TriE.loopN h (fun (v5 : Nat) => St.mk [(0, eS 3 eStocked a0), (8, eS 3 eStocked a0), (9, vi (a0.length : Int)), (10, vi v5)] []) rfl ?_
  clear h
  rintro back v5 h
  dsimp only [restore_CheckStock_L1] at h
  refine sj ?_
  refine jv (vb (decide (v5 < a0.length))) (cy (I0 11 (.bin .lss false (.t 10) (.t 9)))) (n_lss (i := v5) (j := a0.length) rfl rfl) rfl ?_
  refine jp [(0, eS 3 eStocked a0), (8, eS 3 eStocked a0), (9, vi (a0.length : Int)), (10, vi v5), (11, vb (decide (v5 < a0.length)))] ?_
  refine TriE.seq ?_
  refine TriE.cond (b := decide (v5 < a0.length)) rfl (fun c2 => ?_) (fun c2 => ?_)
  · have h := cond_t h c2
    refine TriE.skip ?_
    refine TriE.seq ?_
    refine TriE.block ?_
    refine sj ?_
    refine rn 1 [(0, eS 3 eStocked a0), (8, eS 3 eStocked a0), (9, vi (a0.length : Int)), (10, vi v5), (12, vi v5)] [] ?_
    refine jv (.fptr 3 (List.map eStocked a0) v5 0) (cy (I0 13 (.iaddr 3 (.t 8) (.t 10)))) (ok_iaddr_m (j := v5) rfl rfl rfl c2) rfl ?_
    refine jv (.agg [vt ((ix a0 v5).Part), vi ((ix a0 v5).Cents), vi ((ix a0 v5).Count)]) (cy (I0 14 (.load true 3 (.t 13)))) (ok_load_fm (v := .agg [vt ((ix a0 v5).Part), vi ((ix a0 v5).Cents), vi ((ix a0 v5).Count)]) rfl c2 rfl) rfl ?_
    refine jq 3 [(0, eS 3 eStocked a0), (8, eS 3 eStocked a0), (9, vi (a0.length : Int)), (10, vi v5), (4, .ptr 0 0 0), (3, vi v5)] [some (.row 3 [.agg [vt ((ix a0 v5).Part), vi ((ix a0 v5).Cents), vi ((ix a0 v5).Count)]])] ?_
    refine TriE.block ?_
    refine sj ?_
    refine rn 2 [(0, eS 3 eStocked a0), (8, eS 3 eStocked a0), (9, vi (a0.length : Int)), (10, vi v5), (4, .ptr 0 0 0), (3, vi v5), (17, vt ((ix a0 v5).Part))] [some (.row 3 [.agg [vt ((ix a0 v5).Part), vi ((ix a0 v5).Cents), vi ((ix a0 v5).Count)]])] ?_
    obtain ⟨y6, hy6, h⟩ := bind_some h
    refine RegJ.op (Op1.call (y' := vb y6) (obx := []) (oby := []) (ob2 := [some (.row 3 [.agg [vt ((ix a0 v5).Part), vi ((ix a0 v5).Cents), vi ((ix a0 v5).Count)]])]) _ _ (cy (I0 18 (.call 89 [(.t 17)]))) rfl (restore_isName_ok n ((ix a0 v5).Part) y6 hy6) [] (by kernel_rfl) (.cons rfl (.cons rfl .nil)) (by kernel_rfl) (by kernel_rfl) ObsRen.nil (by kernel_rfl) ObsRen.nil (by kernel_rfl)) ?_
    refine jq 2 [(0, eS 3 eStocked a0), (8, eS 3 eStocked a0), (9, vi (a0.length : Int)), (10, vi v5), (4, .ptr 0 0 0), (3, vi v5), (15, vb (!y6))] [some (.row 3 [.agg [vt ((ix a0 v5).Part), vi ((ix a0 v5).Cents), vi ((ix a0 v5).Count)]])] ?_
    refine TriE.cond (b := !y6) rfl (fun c3 => ?_) (fun c3 => ?_)
    · have h := cond_t h c3
      refine sr [(2, vi 4)] [some (.row 3 [.agg [vt ((ix a0 v5).Part), vi ((ix a0 v5).Cents), vi ((ix a0 v5).Count)]])] ?_
      refine TriE.ret ?_
      have h := Option.some.inj h
      subst h
      exact DoneS.ret (S' := ⟨[(2, vi 4)], []⟩) (sc [] (by decide) (by kernel_rfl) ObRen.nil rfl rfl) rfl rfl
    have h := cond_f h c3
    refine TriE.seq ?_
    refine TriE.sees (Sees.less (fr' := [(0, eS 3 eStocked a0), (8, eS 3 eStocked a0), (9, vi (a0.length : Int)), (10, vi v5), (4, .ptr 0 0 0), (3, vi v5)]) (.cons rfl (.cons rfl (.cons rfl (.cons rfl (.cons rfl (.cons rfl .nil))))))) ?_
    refine TriE.draw (by kernel_rfl) ?_
    refine RegD.run 2 [(22, vi v5), (21, eS 3 eStocked a0), (0, eS 3 eStocked a0), (8, eS 3 eStocked a0), (9, vi (a0.length : Int)), (10, vi v5), (4, .ptr 0 0 0), (3, vi v5)] [some (.row 3 [.agg [vt ((ix a0 v5).Part), vi ((ix a0 v5).Cents), vi ((ix a0 v5).Count)]]), none, none] (by kernel_rfl) ?_
    obtain ⟨c4, h⟩ := chk_some h
    refine dv (eS 3 eStocked (List.take v5 a0)) (cy (I0 23 (.slc 3 (.t 21) none (some (.t 22)) none))) (ok_slc_hi (j := v5) rfl rfl rfl c4) rfl ?_
    refine RegD.run 2 [(25, vt ((ix a0 v5).Part)), (24, .ptr 0 0 0), (23, eS 3 eStocked (List.take v5 a0)), (22, vi v5), (21, eS 3 eStocked a0), (0, eS 3 eStocked a0), (8, eS 3 eStocked a0), (9, vi (a0.length : Int)), (10, vi v5), (4, .ptr 0 0 0), (3, vi v5)] [some (.row 3 [.agg [vt ((ix a0 v5).Part), vi ((ix a0 v5).Cents), vi ((ix a0 v5).Count)]]), none, none, none, none, none] (by kernel_rfl) ?_
    obtain ⟨y7, hy7, h⟩ := bind_some h
    refine RegD.op (OpD.call (y' := vi y7) (obx := []) (oby := []) (ob2 := [some (.row 3 [.agg [vt ((ix a0 v5).Part), vi ((ix a0 v5).Cents), vi ((ix a0 v5).Count)]]), none, none, none, none, none, none]) (tch := []) 0 _ _ (cy (I0 26 (.call 90 [(.t 23), (.t 25)]))) (restore_stocked_ok n (List.take v5 a0) ((ix a0 v5).Part) y7 hy7) [] (by kernel_rfl) (.cons rfl (.cons rfl (.cons rfl .nil))) (by kernel_rfl) (by kernel_rfl) ObsRen.nil (by kernel_rfl) ObsRen.nil (by kernel_rfl) rfl (.inr ⟨rfl, rfl⟩)) ?_
    refine RegD.run 2 [(20, vb (decide ((0 : Int) ≤ y7))), (27, vb (decide ((0 : Int) ≤ y7))), (26, vi y7), (25, vt ((ix a0 v5).Part)), (24, .ptr 0 0 0), (23, eS 3 eStocked (List.take v5 a0)), (22, vi v5), (21, eS 3 eStocked a0), (0, eS 3 eStocked a0), (8, eS 3 eStocked a0), (9, vi (a0.length : Int)), (10, vi v5), (4, .ptr 0 0 0), (3, vi v5)] [some (.row 3 [.agg [vt ((ix a0 v5).Part), vi ((ix a0 v5).Cents), vi ((ix a0 v5).Count)]]), none, none, none, none, none, none, none, none] (by kernel_rfl) ?_
    refine RegD.done rfl (by kernel_rfl) (S' := ⟨[(0, eS 3 eStocked a0), (8, eS 3 eStocked a0), (9, vi (a0.length : Int)), (10, vi v5), (4, .ptr 0 0 0), (20, vb (decide ((0 : Int) ≤ y7)))], [some (.row 3 [.agg [vt ((ix a0 v5).Part), vi ((ix a0 v5).Cents), vi ((ix a0 v5).Count)]])]⟩) (sc [0] (by decide) (by kernel_rfl) (.cons rfl .nil) rfl rfl) ?_
    refine TriE.cond (b := decide ((0 : Int) ≤ y7)) rfl (fun c5 => ?_) (fun c5 => ?_)
    · have h := cond_t h c5
      refine sr [(2, vi 5)] [some (.row 3 [.agg [vt ((ix a0 v5).Part), vi ((ix a0 v5).Cents), vi ((ix a0 v5).Count)]])] ?_
      refine TriE.ret ?_
      have h := Option.some.inj h
      subst h
      exact DoneS.ret (S' := ⟨[(2, vi 5)], []⟩) (sc [] (by decide) (by kernel_rfl) ObRen.nil rfl rfl) rfl rfl
    have h := cond_f h c5
    refine sj ?_
    refine rn 2 [(0, eS 3 eStocked a0), (8, eS 3 eStocked a0), (9, vi (a0.length : Int)), (10, vi v5), (4, .ptr 0 0 0), (30, vi ((ix a0 v5).Cents))] [some (.row 3 [.agg [vt ((ix a0 v5).Part), vi ((ix a0 v5).Cents), vi ((ix a0 v5).Count)]])] ?_
    obtain ⟨y8, hy8, h⟩ := bind_some h
    refine RegJ.op (Op1.call (y' := vb ((decide (0 ≤ ((ix a0 v5).Cents))) && (decide (((ix a0 v5).Cents) ≤ 1000000000)))) (obx := []) (oby := []) (ob2 := [some (.row 3 [.agg [vt ((ix a0 v5).Part), vi ((ix a0 v5).Cents), vi ((ix a0 v5).Count)]])]) _ _ (cy (I0 31 (.call 91 [(.t 30), (.c (.p (.int .i64 0))), (.c (.p (.int .i64 1000000000)))]))) rfl (restore_within_ok n ((ix a0 v5).Cents) 0 1000000000 y8 hy8) [] (by kernel_rfl) (.cons rfl (.cons rfl (.cons rfl (.cons rfl .nil)))) (by kernel_rfl) (by kernel_rfl) ObsRen.nil (by kernel_rfl) ObsRen.nil (by kernel_rfl)) ?_
    refine rn 2 [(0, eS 3 eStocked a0), (8, eS 3 eStocked a0), (9, vi (a0.length : Int)), (10, vi v5), (4, .ptr 0 0 0), (33, vb (!((decide (0 ≤ ((ix a0 v5).Cents))) && (decide (((ix a0 v5).Cents) ≤ 1000000000)))))] [some (.row 3 [.agg [vt ((ix a0 v5).Part), vi ((ix a0 v5).Cents), vi ((ix a0 v5).Count)]])] ?_
    refine RegJ.op (Op1.valk (v := .ptr 0 0 2) _ _ (cy (IG 34 (.faddr 2 (.t 4)) 33 false)) rfl (by kernel_rfl) (fun hg => (.cons rfl .nil))) ?_
    refine RegJ.op (Op1.valk (v := vi ((ix a0 v5).Count)) _ _ (cy (IG 35 (.load false 1 (.t 34)) 33 false)) rfl (by kernel_rfl) (fun hg => (.cons hg .nil))) ?_
    obtain ⟨y9, hy9, h⟩ := bind_some h
    refine RegJ.op (Op1.callg (g := !(!((decide (0 ≤ ((ix a0 v5).Cents))) && (decide (((ix a0 v5).Cents) ≤ 1000000000))))) (y' := vb ((decide (0 ≤ ((ix a0 v5).Count))) && (decide (((ix a0 v5).Count) ≤ 10000)))) (obx := []) _ _ (cy (IG 36 (.call 91 [(.t 35), (.c (.p (.int .i64 0))), (.c (.p (.int .i64 10000)))]) 33 false)) rfl (fun hg => restore_within_ok n ((ix a0 v5).Count) 0 10000 y9 (gcall_some hy9 hg)) [] (fun hg => by kernel_rfl) (fun hg => (.cons rfl (.cons hg (.cons rfl (.cons rfl .nil))))) (by kernel_rfl) (by kernel_rfl) ObsRen.nil (by kernel_rfl) (by kernel_rfl)) ?_
    refine RegJ.op (Op1.valk (v := vb (!((decide (0 ≤ ((ix a0 v5).Count))) && (decide (((ix a0 v5).Count) ≤ 10000))))) _ _ (cy (IG 37 (.un .not (.t 36)) 33 false)) rfl (by kernel_rfl) (fun hg => (.cons hg .nil))) ?_
    refine RegJ.op (Op1.or (cy (I0 38 (.pick (.t 33) (.c (.p (.bool true))) (.t 37)))) rfl rfl (by first | exact hokO1 | exact hokO0 | simp)) ?_
    refine jq 1 [(0, eS 3 eStocked a0), (8, eS 3 eStocked a0), (9, vi (a0.length : Int)), (10, vi v5), (28, vb ((!((decide (0 ≤ ((ix a0 v5).Cents))) && (decide (((ix a0 v5).Cents) ≤ 1000000000)))) || (!((decide (0 ≤ ((ix a0 v5).Count))) && (decide (((ix a0 v5).Count) ≤ 10000))))))] [some (.row 3 [.agg [vt ((ix a0 v5).Part), vi ((ix a0 v5).Cents), vi ((ix a0 v5).Count)]])] ?_
    refine TriE.cond (b := (!((decide (0 ≤ ((ix a0 v5).Cents))) && (decide (((ix a0 v5).Cents) ≤ 1000000000)))) || (!((decide (0 ≤ ((ix a0 v5).Count))) && (decide (((ix a0 v5).Count) ≤ 10000))))) rfl (fun c6 => ?_) (fun c6 => ?_)
    · have h := cond_t h c6
      refine sr [(2, vi 2)] [some (.row 3 [.agg [vt ((ix a0 v5).Part), vi ((ix a0 v5).Cents), vi ((ix a0 v5).Count)]])] ?_
      refine TriE.ret ?_
      have h := Option.some.inj h
      subst h
      exact DoneS.ret (S' := ⟨[(2, vi 2)], []⟩) (sc [] (by decide) (by kernel_rfl) ObRen.nil rfl rfl) rfl rfl
    have h := cond_f h c6
    refine TriE.skip ?_
    refine TriE.regJ ?_
    obtain ⟨c7, h⟩ := chk_some h
    refine jv (vi ((v5 + 1 : Nat) : Int)) (cy (I0 39 (.bin .add false (.t 10) (.c (.p (.int .i64 1)))))) (r_addn (i := v5) (j := 1) rfl rfl c7) rfl ?_
    refine jq 1 [(0, eS 3 eStocked a0), (8, eS 3 eStocked a0), (9, vi (a0.length : Int)), (10, vi ((v5 + 1 : Nat) : Int))] [some (.row 3 [.agg [vt ((ix a0 v5).Part), vi ((ix a0 v5).Cents), vi ((ix a0 v5).Count)]])] ?_
    exact Vs.intro (sc [] (by decide) (by kernel_rfl) ObRen.nil rfl rfl) ⟨(v5 + 1), rfl, h⟩
  have h := cond_f h c2
  refine TriE.exit ?_
  exact Vs.intro sy ⟨(), rfl, h⟩
theorem restore_list_checkSet_ok (n : Nat) (a0 : List Task) (a1 : List Str) (r : Int) (h : restore_list_checkSet n a0 a1 = some r) : FnL Tryz.prog 131 [eS 6 eTask a0, eS 1 vt a1] [] (vi r) [] := by
  dsimp only [restore_list_checkSet] at h
  refine FnL.ofS (ts := [4]) Tryz.call131 Tryz.func131 rfl rfl (Nat.le_of_ble_eq_true rfl) (Nat.le_of_ble_eq_true rfl) (fun j h => absurd h (Nat.not_lt_zero j)) ?_
  refine sr [(0, eS 6 eTask a0), (1, eS 1 vt a1)] [] ?_
  refine TriE.seqK h (fun (_ : Unit) => St.mk [(1, eS 1 vt a1)] []) ?_ ?_
  · rintro ⟨⟩ h
    refine TriE.seqK h (fun (_ : Unit) => St.mk [] []) ?_ ?_
    · rintro ⟨⟩ h
      refine sr [(4, vi 0)] [] ?_
      refine TriE.ret ?_
      have h := Option.some.inj h
      subst h
      exact DoneS.ret (S' := ⟨[(4, vi 0)], []⟩) Sees.refl rfl rfl
    intro k2 h
    refine sr [(1, eS 1 vt a1), (7, vi 1)] [] ?_
    refine TriE.block ?_
    refine TriE.sees (S' := ⟨[(1, eS 1 vt a1), (7, vi 1)], []⟩) sy ?_
    refine TriE.loopN h (fun (v4 : Nat) => St.mk [(1, eS 1 vt a1), (7, vi v4)] []) rfl ?_
    clear h
    rintro back v4 h
    dsimp only [restore_list_checkSet_L2] at h
    refine TriE.seq ?_
    refine sj ?_
    refine rn 2 [(1, eS 1 vt a1), (7, vi v4), (19, vi v4), (20, eS 1 vt a1)] [] ?_
    refine jv (vi (a1.length : Int)) (cy (I0 21 (.len 0 (.t 20)))) (ok_len_m rfl) rfl ?_
    refine jv (vb (decide (v4 < a1.length))) (cy (I0 22 (.bin .lss false (.t 19) (.t 21)))) (n_lss (i := v4) (j := a1.length) rfl rfl) rfl ?_
    refine jp [(1, eS 1 vt a1), (7, vi v4), (22, vb (decide (v4 < a1.length)))] ?_
    refine TriE.cond (b := decide (v4 < a1.length)) rfl (fun c4 => ?_) (fun c4 => ?_)
    · have h := cond_t h c4
      refine TriE.skip ?_
      refine TriE.seq ?_
      refine TriE.block ?_
      refine TriE.seq ?_
      refine TriE.sees (Sees.less (fr' := [(1, eS 1 vt a1), (7, vi v4)]) (.cons rfl (.cons rfl .nil))) ?_
      refine TriE.draw (by kernel_rfl) ?_
      refine RegD.run 2 [(26, vi v4), (25, eS 1 vt a1), (1, eS 1 vt a1), (7, vi v4)] [none, none] (by kernel_rfl) ?_
      refine dv (.fptr 1 (List.map vt a1) v4 0) (cy (I0 27 (.iaddr 1 (.t 25) (.t 26)))) (ok_iaddr_m (j := v4) rfl rfl rfl c4) rfl ?_
      refine dv (vt (ix a1 v4)) (cy (I0 28 (.load false 1 (.t 27)))) (ok_load_fm (v := vt (ix a1 v4)) rfl c4 rfl) rfl ?_
      refine RegD.run 2 [(30, vi v4), (29, eS 1 vt a1), (28, vt (ix a1 v4)), (27, .fptr 1 (List.map vt a1) v4 0), (26, vi v4), (25, eS 1 vt a1), (1, eS 1 vt a1), (7, vi v4)] [none, none, none, none, none, none] (by kernel_rfl) ?_
      obtain ⟨c5, h⟩ := chk_some h
      refine dv (vi ((v4 : Int) - 1)) (cy (I0 31 (.bin .sub false (.t 30) (.c (.p (.int .i64 1)))))) (r_sub rfl rfl c5) rfl ?_
      obtain ⟨c6, h⟩ := chk_some h
      refine dv (.fptr 1 (List.map vt a1) (((v4 : Int) - 1).toNat) 0) (cy (I0 32 (.iaddr 1 (.t 29) (.t 31)))) (ok_iaddr_m (j := ((v4 : Int) - 1).toNat) rfl rfl (inB_to c6) (inB_lt c6)) rfl ?_
      obtain ⟨c7, h⟩ := chk_some h
      refine dv (vt (ix a1 (((v4 : Int) - 1).toNat))) (cy (I0 33 (.load false 1 (.t 32)))) (ok_load_fm (v := vt (ix a1 (((v4 : Int) - 1).toNat))) rfl c7 rfl) rfl ?_
      refine RegD.run 1 [(34, vb (bLt (ix a1 v4) (ix a1 (((v4 : Int) - 1).toNat)) || ((ix a1 v4) == (ix a1 (((v4 : Int) - 1).toNat))))), (33, vt (ix a1 (((v4 : Int) - 1).toNat))), (32, .fptr 1 (List.map vt a1) (((v4 : Int) - 1).toNat) 0), (31, vi ((v4 : Int) - 1)), (30, vi v4), (29, eS 1 vt a1), (28, vt (ix a1 v4)), (27, .fptr 1 (List.map vt a1) v4 0), (26, vi v4), (25, eS 1 vt a1), (1, eS 1 vt a1), (7, vi v4)] [none, none, none, none, none, none, none, none, none, none] (by kernel_rfl) ?_
      refine RegD.done rfl (by kernel_rfl) (S' := ⟨[(1, eS 1 vt a1), (7, vi v4), (34, vb (bLt (ix a1 v4) (ix a1 (((v4 : Int) - 1).toNat)) || ((ix a1 v4) == (ix a1 (((v4 : Int) - 1).toNat)))))], []⟩) (sc [] (by decide) (by kernel_rfl) ObRen.nil rfl rfl) ?_
      refine TriE.cond (b := (bLt (ix a1 v4) (ix a1 (((v4 : Int) - 1).toNat)) || ((ix a1 v4) == (ix a1 (((v4 : Int) - 1).toNat))))) rfl (fun c8 => ?_) (fun c8 => ?_)
      · have h := cond_t h c8
        refine sr [(4, vi 9)] [] ?_
        refine TriE.ret ?_
        have h := Option.some.inj h
        subst h
        exact DoneS.ret (S' := ⟨[(4, vi 9)], []⟩) Sees.refl rfl rfl
      have h := cond_f h c8
      refine TriE.skip ?_
      refine TriE.regJ ?_
      refine rn 1 [(1, eS 1 vt a1), (23, vi v4)] [] ?_
      obtain ⟨c9, h⟩ := chk_some h
      refine jv (vi ((v4 + 1 : Nat) : Int)) (cy (I0 24 (.bin .add false (.t 23) (.c (.p (.int .i64 1)))))) (r_addn (i := v4) (j := 1) rfl rfl c9) rfl ?_
      refine jq 1 [(1, eS 1 vt a1), (7, vi ((v4 + 1 : Nat) : Int))] [] ?_
      exact Vs.intro sy ⟨(v4 + 1), rfl, h⟩
    have h := cond_f h c4
    refine TriE.exit ?_
    exact Vs.intro sy ⟨(), rfl, h⟩
  intro k1 h
  refine sj ?_
  refine rn 1 [(0, eS 6 eTask a0), (1, eS 1 vt a1), (8, eS 1 vt a1)] [] ?_
  refine jv (vi (a1.length : Int)) (cy (I0 9 (.len 0 (.t 8)))) (ok_len_m rfl) rfl ?_
  refine jq 1 [(0, eS 6 eTask a0), (1, eS 1 vt a1), (8, eS 1 vt a1), (9, vi (a1.length : Int)), (10, vi 0)] [] ?_
  refine TriE.block ?_
  refine TriE.sees (S' := ⟨[(0, eS 6 eTask a0), (1, eS 1 vt a1), (8, eS 1 vt a1), (9, vi (a1.length : Int)), (10, vi 0)], []⟩) sy ?_
  refine TriE.loopN h (fun (v2 : Nat) => St.mk [(0, eS 6 eTask a0), (1, eS 1 vt a1), (8, eS 1 vt a1), (9, vi (a1.length : Int)), (10, vi v2)] []) rfl ?_
  clear h
  rintro back v2 h
  dsimp only [restore_list_checkSet_L1] at h
  refine sj ?_
  refine jv (vb (decide (v2 < a1.length))) (cy (I0 11 (.bin .lss false (.t 10) (.t 9)))) (n_lss (i := v2) (j := a1.length) rfl rfl) rfl ?_
  refine jp [(0, eS 6 eTask a0), (1, eS 1 vt a1), (8, eS 1 vt a1), (9, vi (a1.length : Int)), (10, vi v2), (11, vb (decide (v2 < a1.length)))] ?_
  refine TriE.seq ?_
  refine TriE.cond (b := decide (v2 < a1.length)) rfl (fun c1 => ?_) (fun c1 => ?_)
  · have h := cond_t h c1
    refine TriE.skip ?_
    refine TriE.seq ?_
    refine TriE.block ?_
    refine sj ?_
    refine jv (.fptr 1 (List.map vt a1) v2 0) (cy (I0 12 (.iaddr 1 (.t 8) (.t 10)))) (ok_iaddr_m (j := v2) rfl rfl rfl c1) rfl ?_
    refine jv (vt (ix a1 v2)) (cy (I0 13 (.load false 1 (.t 12)))) (ok_load_fm (v := vt (ix a1 v2)) rfl c1 rfl) rfl ?_
    refine jq 1 [(0, eS 6 eTask a0), (1, eS 1 vt a1), (8, eS 1 vt a1), (9, vi (a1.length : Int)), (10, vi v2), (6, vt (ix a1 v2))] [] ?_
    refine sj ?_
    refine rn 2 [(0, eS 6 eTask a0), (1, eS 1 vt a1), (8, eS 1 vt a1), (9, vi (a1.length : Int)), (10, vi v2), (14, eS 6 eTask a0), (15, vt (ix a1 v2))] [] ?_
    obtain ⟨y3, hy3, h⟩ := bind_some h
    refine RegJ.op (Op1.call (y' := vi y3) (obx := []) (oby := []) (ob2 := []) _ _ (cy (I0 16 (.call 117 [(.t 14), (.t 15)]))) rfl (restore_list_find_ok n a0 (ix a1 v2) y3 hy3) [] (by kernel_rfl) (.cons rfl (.cons rfl (.cons rfl .nil))) (by kernel_rfl) (by kernel_rfl) ObsRen.nil (by kernel_rfl) ObsRen.nil (by kernel_rfl)) ?_
    refine jq 1 [(0, eS 6 eTask a0), (1, eS 1 vt a1), (8, eS 1 vt a1), (9, vi (a1.length : Int)), (10, vi v2), (17, vb (decide (y3 < (0 : Int))))] [] ?_
    refine TriE.cond (b := decide (y3 < (0 : Int))) rfl (fun c2 => ?_) (fun c2 => ?_)
    · have h := cond_t h c2
      refine sr [(4, vi 6)] [] ?_
      refine TriE.ret ?_
      have h := Option.some.inj h
      subst h
      exact DoneS.ret (S' := ⟨[(4, vi 6)], []⟩) Sees.refl rfl rfl
    have h := cond_f h c2
    refine TriE.skip ?_
    refine TriE.regJ ?_
    obtain ⟨c3, h⟩ := chk_some h
    refine jv (vi ((v2 + 1 : Nat) : Int)) (cy (I0 18 (.bin .add false (.t 10) (.c (.p (.int .i64 1)))))) (r_addn (i := v2) (j := 1) rfl rfl c3) rfl ?_
    refine jq 1 [(0, eS 6 eTask a0), (1, eS 1 vt a1), (8, eS 1 vt a1), (9, vi (a1.length : Int)), (10, vi ((v2 + 1 : Nat) : Int))] [] ?_
    exact Vs.intro sy ⟨(v2 + 1), rfl, h⟩
  have h := cond_f h c1
  refine TriE.exit ?_
  exact Vs.intro sy ⟨(), rfl, h⟩
theorem restore_costOf_ok (n : Nat) (a0 : Task) (a1 : List Stocked) (r : Int × Bool) (h : restore_costOf n a0 a1 = some r) : FnL Tryz.prog 132 [.agg [vt a0.Name, vi a0.Cents, vi a0.Hours, eS 1 vt a0.Needs, eS 1 (eS 1 vt) a0.OneOf, eS 2 ePartCount a0.Parts], eS 3 eStocked a1] [] (.tup [vi r.1, vb r.2]) [] := by
  dsimp only [restore_costOf] at h
  refine FnL.ofS (ts := [4, 5]) Tryz.call132 Tryz.func132 rfl rfl (Nat.le_of_ble_eq_true rfl) (Nat.le_of_ble_eq_true rfl) (fun j h => absurd h (Nat.not_lt_zero j)) ?_
  refine sr [(1, eS 3 eStocked a1), (2, .ptr 0 0 0)] [some (.row 6 [.agg [vt a0.Name, vi a0.Cents, vi a0.Hours, eS 1 vt a0.Needs, eS 1 (eS 1 vt) a0.OneOf, eS 2 ePartCount a0.Parts]])] ?_
  refine sr [(1, eS 3 eStocked a1), (2, .ptr 0 0 0), (6, vi a0.Cents)] [some (.row 6 [.agg [vt a0.Name, vi a0.Cents, vi a0.Hours, eS 1 vt a0.Needs, eS 1 (eS 1 vt) a0.OneOf, eS 2 ePartCount a0.Parts]])] ?_
  refine TriE.seqK h (fun (v5 : Int) => St.mk [(6, vi v5)] []) ?_ ?_
  · rintro v5 h
    refine sr [(4, vi v5), (5, vb true)] [] ?_
    refine TriE.ret ?_
    have h := Option.some.inj h
    subst h
    exact DoneS.ret (S' := ⟨[(4, vi v5), (5, vb true)], []⟩) Sees.refl rfl rfl
  intro k1 h
  refine sj ?_
  refine rn 2 [(1, eS 3 eStocked a1), (6, vi a0.Cents), (13, eS 2 ePartCount a0.Parts)] [some (.row 6 [.agg [vt a0.Name, vi a0.Cents, vi a0.Hours, eS 1 vt a0.Needs, eS 1 (eS 1 vt) a0.OneOf, eS 2 ePartCount a0.Parts]])] ?_
  refine jv (vi ((a0.Parts.length : Nat) : Int)) (cy (I0 14 (.len 0 (.t 13)))) (ok_len_m rfl) rfl ?_
  refine jq 1 [(1, eS 3 eStocked a1), (6, vi a0.Cents), (13, eS 2 ePartCount a0.Parts), (14, vi ((a0.Parts.length : Nat) : Int)), (15, vi 0)] [some (.row 6 [.agg [vt a0.Name, vi a0.Cents, vi a0.Hours, eS 1 vt a0.Needs, eS 1 (eS 1 vt) a0.OneOf, eS 2 ePartCount a0.Parts]])] ?_
  refine TriE.block ?_
  refine TriE.sees (S' := ⟨[(1, eS 3 eStocked a1), (6, vi a0.Cents), (13, eS 2 ePartCount a0.Parts), (14, vi ((a0.Parts.length : Nat) : Int)), (15, vi 0)], []⟩) (sc [] (by decide) (by kernel_rfl) ObRen.nil rfl rfl) ?_
  refine TriE.loopN h (fun (t : Int × Nat) => match t with | (v2, v3) => St.mk [(1, eS 3 eStocked a1), (6, vi v2), (13, eS 2 ePartCount a0.Parts), (14, vi ((a0.Parts.length : Nat) : Int)), (15, vi v3)] []) rfl ?_
  clear h
  rintro back ⟨v2, v3⟩ h
  dsimp only [restore_costOf_L1] at h
  refine sj ?_
  refine jv (vb (decide (v3 < a0.Parts.length))) (cy (I0 16 (.bin .lss false (.t 15) (.t 14)))) (n_lss (i := v3) (j := a0.Parts.length) rfl rfl) rfl ?_
  refine jp [(1, eS 3 eStocked a1), (6, vi v2), (13, eS 2 ePartCount a0.Parts), (14, vi ((a0.Parts.length : Nat) : Int)), (15, vi v3), (16, vb (decide (v3 < a0.Parts.length)))] ?_
  refine TriE.seq ?_
  refine TriE.cond (b := decide (v3 < a0.Parts.length)) rfl (fun c1 => ?_) (fun c1 => ?_)
  · have h := cond_t h c1
    refine TriE.skip ?_
    refine TriE.seq ?_
    refine TriE.block ?_
    refine sj ?_
    refine jv (.fptr 2 (List.map ePartCount a0.Parts) v3 0) (cy (I0 17 (.iaddr 2 (.t 13) (.t 15)))) (ok_iaddr_m (j := v3) rfl rfl rfl c1) rfl ?_
    refine jv (.agg [vt ((ix a0.Parts v3).Part), vi ((ix a0.Parts v3).Count)]) (cy (I0 18 (.load true 2 (.t 17)))) (ok_load_fm (v := .agg [vt ((ix a0.Parts v3).Part), vi ((ix a0.Parts v3).Count)]) rfl c1 rfl) rfl ?_
    refine jq 2 [(1, eS 3 eStocked a1), (6, vi v2), (13, eS 2 ePartCount a0.Parts), (14, vi ((a0.Parts.length : Nat) : Int)), (15, vi v3), (8, .ptr 0 0 0)] [some (.row 2 [.agg [vt ((ix a0.Parts v3).Part), vi ((ix a0.Parts v3).Count)]])] ?_
    refine sj ?_
    refine rn 3 [(1, eS 3 eStocked a1), (6, vi v2), (13, eS 2 ePartCount a0.Parts), (14, vi ((a0.Parts.length : Nat) : Int)), (15, vi v3), (8, .ptr 0 0 0), (19, eS 3 eStocked a1), (21, vt ((ix a0.Parts v3).Part))] [some (.row 2 [.agg [vt ((ix a0.Parts v3).Part), vi ((ix a0.Parts v3).Count)]])] ?_
    obtain ⟨y4, hy4, h⟩ := bind_some h
    refine RegJ.op (Op1.call (y' := vi y4) (obx := []) (oby := []) (ob2 := [some (.row 2 [.agg [vt ((ix a0.Parts v3).Part), vi ((ix a0.Parts v3).Count)]])]) _ _ (cy (I0 22 (.call 90 [(.t 19), (.t 21)]))) rfl (restore_stocked_ok n a1 ((ix a0.Parts v3).Part) y4 hy4) [] (by kernel_rfl) (.cons rfl (.cons rfl (.cons rfl .nil))) (by kernel_rfl) (by kernel_rfl) ObsRen.nil (by kernel_rfl) ObsRen.nil (by kernel_rfl)) ?_
    refine jq 1 [(1, eS 3 eStocked a1), (6, vi v2), (13, eS 2 ePartCount a0.Parts), (14, vi ((a0.Parts.length : Nat) : Int)), (15, vi v3), (8, .ptr 0 0 0), (9, vi y4)] [some (.row 2 [.agg [vt ((ix a0.Parts v3).Part), vi ((ix a0.Parts v3).Count)]])] ?_
    refine TriE.seq ?_
    refine sr [(1, eS 3 eStocked a1), (6, vi v2), (13, eS 2 ePartCount a0.Parts), (14, vi ((a0.Parts.length : Nat) : Int)), (15, vi v3), (8, .ptr 0 0 0), (9, vi y4), (24, vb (decide (y4 < (0 : Int))))] [some (.row 2 [.agg [vt ((ix a0.Parts v3).Part), vi ((ix a0.Parts v3).Count)]])] ?_
    refine TriE.cond (b := decide (y4 < (0 : Int))) rfl (fun c2 => ?_) (fun c2 => ?_)
    · have h := cond_t h c2
      refine sr [(4, vi 0), (5, vb false)] [some (.row 2 [.agg [vt ((ix a0.Parts v3).Part), vi ((ix a0.Parts v3).Count)]])] ?_
      refine TriE.ret ?_
      have h := Option.some.inj h
      subst h
      exact DoneS.ret (S' := ⟨[(4, vi 0), (5, vb false)], []⟩) (sc [] (by decide) (by kernel_rfl) ObRen.nil rfl rfl) rfl rfl
    have h := cond_f h c2
    refine TriE.skip ?_
    refine TriE.sees (Sees.less (fr' := [(1, eS 3 eStocked a1), (6, vi v2), (13, eS 2 ePartCount a0.Parts), (14, vi ((a0.Parts.length : Nat) : Int)), (15, vi v3), (8, .ptr 0 0 0), (9, vi y4)]) (.cons rfl (.cons rfl (.cons rfl (.cons rfl (.cons rfl (.cons rfl (.cons rfl .nil)))))))) ?_
    refine TriE.draw (by kernel_rfl) ?_
    refine RegD.run 5 [(29, vi y4), (28, eS 3 eStocked a1), (27, vi ((ix a0.Parts v3).Count)), (26, .ptr 0 0 1), (25, vi v2), (1, eS 3 eStocked a1), (6, vi v2), (13, eS 2 ePartCount a0.Parts), (14, vi ((a0.Parts.length : Nat) : Int)), (15, vi v3), (8, .ptr 0 0 0), (9, vi y4)] [some (.row 2 [.agg [vt ((ix a0.Parts v3).Part), vi ((ix a0.Parts v3).Count)]]), none, none, none, none, none] (by kernel_rfl) ?_
    obtain ⟨c3, h⟩ := chk_some h
    refine dv (.fptr 3 (List.map eStocked a1) y4.toNat 0) (cy (I0 30 (.iaddr 3 (.t 28) (.t 29)))) (ok_iaddr_m (j := y4.toNat) rfl rfl (inB_to c3) (inB_lt c3)) rfl ?_
    refine RegD.run 1 [(31, .fptr 3 (List.map eStocked a1) y4.toNat 1), (30, .fptr 3 (List.map eStocked a1) y4.toNat 0), (29, vi y4), (28, eS 3 eStocked a1), (27, vi ((ix a0.Parts v3).Count)), (26, .ptr 0 0 1), (25, vi v2), (1, eS 3 eStocked a1), (6, vi v2), (13, eS 2 ePartCount a0.Parts), (14, vi ((a0.Parts.length : Nat) : Int)), (15, vi v3), (8, .ptr 0 0 0), (9, vi y4)] [some (.row 2 [.agg [vt ((ix a0.Parts v3).Part), vi ((ix a0.Parts v3).Count)]]), none, none, none, none, none, none, none] (by kernel_rfl) ?_
    obtain ⟨c4, h⟩ := chk_some h
    refine dv (vi ((ix a1 y4.toNat).Cents)) (cy (I0 32 (.load false 1 (.t 31)))) (ok_load_fm (v := vi ((ix a1 y4.toNat).Cents)) rfl c4 rfl) rfl ?_
    obtain ⟨c5, h⟩ := chk_some h
    refine dv (vi (((ix a0.Parts v3).Count) * ((ix a1 y4.toNat).Cents))) (cy (I0 33 (.bin .mul false (.t 27) (.t 32)))) (r_mul rfl rfl c5) rfl ?_
    obtain ⟨c6, h⟩ := chk_some h
    refine dv (vi (v2 + (((ix a0.Parts v3).Count) * ((ix a1 y4.toNat).Cents)))) (cy (I0 34 (.bin .add false (.t 25) (.t 33)))) (r_add rfl rfl c6) rfl ?_
    refine RegD.run 1 [(6, vi (v2 + (((ix a0.Parts v3).Count) * ((ix a1 y4.toNat).Cents)))), (34, vi (v2 + (((ix a0.Parts v3).Count) * ((ix a1 y4.toNat).Cents)))), (33, vi (((ix a0.Parts v3).Count) * ((ix a1 y4.toNat).Cents))), (32, vi ((ix a1 y4.toNat).Cents)), (31, .fptr 3 (List.map eStocked a1) y4.toNat 1), (30, .fptr 3 (List.map eStocked a1) y4.toNat 0), (29, vi y4), (28, eS 3 eStocked a1), (27, vi ((ix a0.Parts v3).Count)), (26, .ptr 0 0 1), (25, vi v2), (1, eS 3 eStocked a1), (6, vi v2), (13, eS 2 ePartCount a0.Parts), (14, vi ((a0.Parts.length : Nat) : Int)), (15, vi v3), (8, .ptr 0 0 0), (9, vi y4)] [some (.row 2 [.agg [vt ((ix a0.Parts v3).Part), vi ((ix a0.Parts v3).Count)]]), none, none, none, none, none, none, none, none, none, none, none] (by kernel_rfl) ?_
    refine RegD.done rfl (by kernel_rfl) (S' := ⟨[(1, eS 3 eStocked a1), (13, eS 2 ePartCount a0.Parts), (14, vi ((a0.Parts.length : Nat) : Int)), (15, vi v3), (6, vi (v2 + (((ix a0.Parts v3).Count) * ((ix a1 y4.toNat).Cents))))], []⟩) (sc [] (by decide) (by kernel_rfl) ObRen.nil rfl rfl) ?_
    refine TriE.regJ ?_
    obtain ⟨c7, h⟩ := chk_some h
    refine jv (vi ((v3 + 1 : Nat) : Int)) (cy (I0 35 (.bin .add false (.t 15) (.c (.p (.int .i64 1)))))) (r_addn (i := v3) (j := 1) rfl rfl c7) rfl ?_
    refine jq 1 [(1, eS 3 eStocked a1), (13, eS 2 ePartCount a0.Parts), (14, vi ((a0.Parts.length : Nat) : Int)), (6, vi (v2 + (((ix a0.Parts v3).Count) * ((ix a1 y4.toNat).Cents)))), (15, vi ((v3 + 1 : Nat) : Int))] [] ?_
    exact Vs.intro sy ⟨(v2 + (((ix a0.Parts v3).Count) * ((ix a1 y4.toNat).Cents)), v3 + 1), rfl, h⟩
  have h := cond_f h c1
  refine TriE.exit ?_
  exact Vs.intro sy ⟨v2, rfl, h⟩
theorem restore_list_bits_ok (n : Nat) (a0 : List Task) (a1 : List Str) (r : Int) (h : restore_list_bits n a0 a1 = some r) : FnL Tryz.prog 133 [eS 6 eTask a0, eS 1 vt a1] [] (vk .u64 r) [] := by
  dsimp only [restore_list_bits] at h
  refine FnL.ofS (ts := [4]) Tryz.call133 Tryz.func133 rfl rfl (Nat.le_of_ble_eq_true rfl) (Nat.le_of_ble_eq_true rfl) (fun j h => absurd h (Nat.not_lt_zero j)) ?_
  refine sr [(0, eS 6 eTask a0), (1, eS 1 vt a1)] [] ?_
  refine sr [(0, eS 6 eTask a0), (1, eS 1 vt a1), (5, vk .u64 0)] [] ?_
  refine TriE.seqK h (fun (v5 : Int) => St.mk [(5, vk .u64 v5)] []) ?_ ?_
  · rintro v5 h
    refine sr [(4, vk .u64 v5)] [] ?_
    refine TriE.ret ?_
    have h := Option.some.inj h
    subst h
    exact DoneS.ret (S' := ⟨[(4, vk .u64 v5)], []⟩) Sees.refl rfl rfl
  intro k1 h
  refine sj ?_
  refine rn 1 [(0, eS 6 eTask a0), (5, vk .u64 0), (8, eS 1 vt a1)] [] ?_
  refine jv (vi (a1.length : Int)) (cy (I0 9 (.len 0 (.t 8)))) (ok_len_m rfl) rfl ?_
  refine jq 1 [(0, eS 6 eTask a0), (5, vk .u64 0), (8, eS 1 vt a1), (9, vi (a1.length : Int)), (10, vi 0)] [] ?_
  refine TriE.block ?_
  refine TriE.sees (S' := ⟨[(0, eS 6 eTask a0), (5, vk .u64 0), (8, eS 1 vt a1), (9, vi (a1.length : Int)), (10, vi 0)], []⟩) sy ?_
  refine TriE.loopN h (fun (t : Int × Nat) => match t with | (v2, v3) => St.mk [(0, eS 6 eTask a0), (5, vk .u64 v2), (8, eS 1 vt a1), (9, vi (a1.length : Int)), (10, vi v3)] []) rfl ?_
  clear h
  rintro back ⟨v2, v3⟩ h
  dsimp only [restore_list_bits_L1] at h
  refine sj ?_
  refine jv (vb (decide (v3 < a1.length))) (cy (I0 11 (.bin .lss false (.t 10) (.t 9)))) (n_lss (i := v3) (j := a1.length) rfl rfl) rfl ?_
  refine jp [(0, eS 6 eTask a0), (5, vk .u64 v2), (8, eS 1 vt a1), (9, vi (a1.length : Int)), (10, vi v3), (11, vb (decide (v3 < a1.length)))] ?_
  refine TriE.seq ?_
  refine TriE.cond (b := decide (v3 < a1.length)) rfl (fun c1 => ?_) (fun c1 => ?_)
  · have h := cond_t h c1
    refine TriE.skip ?_
    refine TriE.seq ?_
    refine TriE.block ?_
    refine sj ?_
    refine jv (.fptr 1 (List.map vt a1) v3 0) (cy (I0 12 (.iaddr 1 (.t 8) (.t 10)))) (ok_iaddr_m (j := v3) rfl rfl rfl c1) rfl ?_
    refine jv (vt (ix a1 v3)) (cy (I0 13 (.load false 1 (.t 12)))) (ok_load_fm (v := vt (ix a1 v3)) rfl c1 rfl) rfl ?_
    refine jq 1 [(0, eS 6 eTask a0), (5, vk .u64 v2), (8, eS 1 vt a1), (9, vi (a1.length : Int)), (10, vi v3), (7, vt (ix a1 v3))] [] ?_
    refine TriE.regJ ?_
    refine rn 3 [(0, eS 6 eTask a0), (8, eS 1 vt a1), (9, vi (a1.length : Int)), (10, vi v3), (14, vk .u64 v2), (15, eS 6 eTask a0), (16, vt (ix a1 v3))] [] ?_
    obtain ⟨y4, hy4, h⟩ := bind_some h
    refine RegJ.op (Op1.call (y' := vi y4) (obx := []) (oby := []) (ob2 := []) _ _ (cy (I0 17 (.call 117 [(.t 15), (.t 16)]))) rfl (restore_list_find_ok n a0 (ix a1 v3) y4 hy4) [] (by kernel_rfl) (.cons rfl (.cons rfl (.cons rfl .nil))) (by kernel_rfl) (by kernel_rfl) ObsRen.nil (by kernel_rfl) ObsRen.nil (by kernel_rfl)) ?_
    obtain ⟨c2, h⟩ := chk_some h
    refine jv (vk .u64 (IntKind.u64.wrap (1 * 2 ^ (min y4.toNat 64)))) (cy (I0 18 (.bin .shl false (.c (.p (.int .u64 1))) (.t 17)))) (r_shl rfl rfl c2) rfl ?_
    refine jq 2 [(0, eS 6 eTask a0), (8, eS 1 vt a1), (9, vi (a1.length : Int)), (10, vi v3), (5, vk .u64 (iOr .u64 v2 (IntKind.u64.wrap (1 * 2 ^ (min y4.toNat 64)))))] [] ?_
    refine TriE.regJ ?_
    obtain ⟨c3, h⟩ := chk_some h
    refine jv (vi ((v3 + 1 : Nat) : Int)) (cy (I0 20 (.bin .add false (.t 10) (.c (.p (.int .i64 1)))))) (r_addn (i := v3) (j := 1) rfl rfl c3) rfl ?_
    refine jq 1 [(0, eS 6 eTask a0), (8, eS 1 vt a1), (9, vi (a1.length : Int)), (5, vk .u64 (iOr .u64 v2 (IntKind.u64.wrap (1 * 2 ^ (min y4.toNat 64))))), (10, vi ((v3 + 1 : Nat) : Int))] [] ?_
    exact Vs.intro sy ⟨(iOr .u64 v2 (IntKind.u64.wrap (1 * 2 ^ (min y4.toNat 64))), v3 + 1), rfl, h⟩
  have h := cond_f h c1
  refine TriE.exit ?_
  exact Vs.intro sy ⟨v2, rfl, h⟩
theorem restore_choice_closed_f1_ok (n : Nat) (a0 : Int) (a1 : Int) (r : Unit) (h : restore_choice_closed_f1 n a0 a1 = some r) : FnL Tryz.prog 182 [vk .u64 a0, .ptr 0 0 0] [some (.row 1 [vk .u64 a1])] (vb ((iAnd .u64 a0 a1) == (0 : Int))) [some (.row 1 [vk .u64 a1])] := by
  dsimp only [restore_choice_closed_f1] at h
  refine FnL.ofS (ts := [3]) Tryz.call182 Tryz.func182 rfl rfl (Nat.le_of_ble_eq_true rfl) (Nat.le_of_ble_eq_true rfl) (hall_of (.cons rfl .nil)) ?_
  refine sr [(0, vk .u64 a0), (1, .ptr 0 0 0)] [some (.row 1 [vk .u64 a1])] ?_
  refine sr [(3, vb ((iAnd .u64 a0 a1) == (0 : Int)))] [some (.row 1 [vk .u64 a1])] ?_
  refine TriE.ret ?_
  have h := Option.some.inj h
  subst h
  exact DoneS.ret (S' := ⟨[(3, vb ((iAnd .u64 a0 a1) == (0 : Int)))], [some (.row 1 [vk .u64 a1])]⟩) Sees.refl rfl rfl
theorem slices_IndexFunc_bitset_ok (n : Nat) (a0 : List Int) (a1 : Int) (r : Int) (h : slices_IndexFunc_bitset n a0 a1 = some r) : FnL Tryz.prog 205 [eS 1 (vk .u64) a0, .fn (.func 182) [] [.ptr 0 0 0]] [some (.row 1 [vk .u64 a1])] (vi r) [some (.row 1 [vk .u64 a1])] := by
  dsimp only [slices_IndexFunc_bitset] at h
  refine FnL.ofS (ts := [4]) Tryz.call205 Tryz.func205 rfl rfl (Nat.le_of_ble_eq_true rfl) (Nat.le_of_ble_eq_true rfl) (hall_of (.cons rfl .nil)) ?_
  refine sr [(0, eS 1 (vk .u64) a0), (1, .fn (.func 182) [] [.ptr 0 0 0])] [some (.row 1 [vk .u64 a1])] ?_
  refine TriE.seqK h (fun (_ : Unit) => St.mk [] [some (.row 1 [vk .u64 a1])]) ?_ ?_
  · rintro ⟨⟩ h
    refine sr [(4, vi (-1))] [some (.row 1 [vk .u64 a1])] ?_
    refine TriE.ret ?_
    have h := Option.some.inj h
    subst h
    exact DoneS.ret (S' := ⟨[(4, vi (-1))], [some (.row 1 [vk .u64 a1])]⟩) Sees.refl rfl rfl
  intro k1 h
  refine sj ?_
  refine rn 1 [(0, eS 1 (vk .u64) a0), (1, .fn (.func 182) [] [.ptr 0 0 0]), (6, eS 1 (vk .u64) a0)] [some (.row 1 [vk .u64 a1])] ?_
  refine jv (vi (a0.length : Int)) (cy (I0 7 (.len 0 (.t 6)))) (ok_len_m rfl) rfl ?_
  refine jq 1 [(0, eS 1 (vk .u64) a0), (1, .fn (.func 182) [] [.ptr 0 0 0]), (7, vi (a0.length : Int)), (8, vi 0)] [some (.row 1 [vk .u64 a1])] ?_
  refine TriE.block ?_
  refine TriE.sees (S' := ⟨[(0, eS 1 (vk .u64) a0), (1, .fn (.func 182) [] [.ptr 0 0 0]), (7, vi (a0.length : Int)), (8, vi 0)], [some (.row 1 [vk .u64 a1])]⟩) sy ?_
  refine TriE.loopN h (fun (v2 : Nat) => St.mk [(0, eS 1 (vk .u64) a0), (1, .fn (.func 182) [] [.ptr 0 0 0]), (7, vi (a0.length : Int)), (8, vi v2)] [some (.row 1 [vk .u64 a1])]) rfl ?_
  clear h
  rintro back v2 h
  dsimp only [slices_IndexFunc_bitset_L1] at h
  refine sj ?_
  refine jv (vb (decide (v2 < a0.length))) (cy (I0 9 (.bin .lss false (.t 8) (.t 7)))) (n_lss (i := v2) (j := a0.length) rfl rfl) rfl ?_
  refine jp [(0, eS 1 (vk .u64) a0), (1, .fn (.func 182) [] [.ptr 0 0 0]), (7, vi (a0.length : Int)), (8, vi v2), (9, vb (decide (v2 < a0.length)))] ?_
  refine TriE.seq ?_
  refine TriE.cond (b := decide (v2 < a0.length)) rfl (fun c1 => ?_) (fun c1 => ?_)
  · have h := cond_t h c1
    refine TriE.skip ?_
    refine TriE.seq ?_
    refine TriE.block ?_
    refine sr [(0, eS 1 (vk .u64) a0), (1, .fn (.func 182) [] [.ptr 0 0 0]), (7, vi (a0.length : Int)), (8, vi v2), (5, vi v2)] [some (.row 1 [vk .u64 a1])] ?_
    refine sj ?_
    refine rn 3 [(0, eS 1 (vk .u64) a0), (1, .fn (.func 182) [] [.ptr 0 0 0]), (7, vi (a0.length : Int)), (8, vi v2), (5, vi v2), (11, .fn (.func 182) [] [.ptr 0 0 0]), (12, eS 1 (vk .u64) a0), (13, vi v2)] [some (.row 1 [vk .u64 a1])] ?_
    refine jv (.fptr 1 (List.map (vk .u64) a0) v2 0) (cy (I0 14 (.iaddr 1 (.t 12) (.t 13)))) (ok_iaddr_m (j := v2) rfl rfl rfl c1) rfl ?_
    refine jv (vk .u64 (ix a0 v2)) (cy (I0 15 (.load false 1 (.t 14)))) (ok_load_fm (v := vk .u64 (ix a0 v2)) rfl c1 rfl) rfl ?_
    obtain ⟨y3, hy3, h⟩ := bind_some h
    refine RegJ.op (Op1.dyn (y' := vb ((iAnd .u64 (ix a0 v2) a1) == (0 : Int))) (obx := [some (.row 1 [vk .u64 a1])]) (oby := [some (.row 1 [vk .u64 a1])]) (ob2 := [some (.row 1 [vk .u64 a1])]) _ _ _ (cy (I0 16 (.dyn (.t 11) [(.t 15)]))) rfl rfl (restore_choice_closed_f1_ok n (ix a0 v2) a1 y3 hy3) [0] (by kernel_rfl) (.cons rfl (.cons rfl .nil)) (by kernel_rfl) (by kernel_rfl) (.cons rfl .nil) (by kernel_rfl) (.cons rfl .nil) (by kernel_rfl)) ?_
    refine jp [(0, eS 1 (vk .u64) a0), (1, .fn (.func 182) [] [.ptr 0 0 0]), (7, vi (a0.length : Int)), (8, vi v2), (5, vi v2), (16, vb ((iAnd .u64 (ix a0 v2) a1) == (0 : Int)))] ?_
    refine TriE.cond (b := ((iAnd .u64 (ix a0 v2) a1) == (0 : Int))) rfl (fun c2 => ?_) (fun c2 => ?_)
    · have h := cond_t h c2
      refine sr [(4, vi v2)] [some (.row 1 [vk .u64 a1])] ?_
      refine TriE.ret ?_
      have h := Option.some.inj h
      subst h
      exact DoneS.ret (S' := ⟨[(4, vi v2)], [some (.row 1 [vk .u64 a1])]⟩) Sees.refl rfl rfl
    have h := cond_f h c2
    refine TriE.skip ?_
    refine TriE.regJ ?_
    obtain ⟨c3, h⟩ := chk_some h
    refine jv (vi ((v2 + 1 : Nat) : Int)) (cy (I0 18 (.bin .add false (.t 8) (.c (.p (.int .i64 1)))))) (r_addn (i := v2) (j := 1) rfl rfl c3) rfl ?_
    refine jq 1 [(0, eS 1 (vk .u64) a0), (1, .fn (.func 182) [] [.ptr 0 0 0]), (7, vi (a0.length : Int)), (8, vi ((v2 + 1 : Nat) : Int))] [some (.row 1 [vk .u64 a1])] ?_
    exact Vs.intro sy ⟨(v2 + 1), rfl, h⟩
  have h := cond_f h c1
  refine TriE.exit ?_
  exact Vs.intro sy ⟨(), rfl, h⟩
theorem slices_ContainsFunc_bitset_ok (n : Nat) (a0 : List Int) (a1 : Int) (r : Bool) (h : slices_ContainsFunc_bitset n a0 a1 = some r) : FnL Tryz.prog 181 [eS 1 (vk .u64) a0, .fn (.func 182) [] [.ptr 0 0 0]] [some (.row 1 [vk .u64 a1])] (vb r) [some (.row 1 [vk .u64 a1])] := by
  dsimp only [slices_ContainsFunc_bitset] at h
  refine FnL.ofS (ts := [4]) Tryz.call181 Tryz.func181 rfl rfl (Nat.le_of_ble_eq_true rfl) (Nat.le_of_ble_eq_true rfl) (hall_of (.cons rfl .nil)) ?_
  refine sr [(0, eS 1 (vk .u64) a0), (1, .fn (.func 182) [] [.ptr 0 0 0])] [some (.row 1 [vk .u64 a1])] ?_
  refine sj ?_
  refine rn 2 [(5, eS 1 (vk .u64) a0), (6, .fn (.func 182) [] [.ptr 0 0 0])] [some (.row 1 [vk .u64 a1])] ?_
  obtain ⟨y1, hy1, h⟩ := bind_some h
  refine RegJ.op (Op1.call (y' := vi y1) (obx := [some (.row 1 [vk .u64 a1])]) (oby := [some (.row 1 [vk .u64 a1])]) (ob2 := [some (.row 1 [vk .u64 a1])]) _ _ (cy (I0 7 (.call 205 [(.t 5), (.t 6)]))) rfl (slices_IndexFunc_bitset_ok n a0 a1 y1 hy1) [0] (by kernel_rfl) (.cons rfl (.cons rfl (.cons rfl .nil))) (by kernel_rfl) (by kernel_rfl) (.cons rfl .nil) (by kernel_rfl) (.cons rfl .nil) (by kernel_rfl)) ?_
  refine jq 2 [(4, vb (decide ((0 : Int) ≤ y1)))] [some (.row 1 [vk .u64 a1])] ?_
  refine TriE.ret ?_
  have h := Option.some.inj h
  subst h
  exact DoneS.ret (S' := ⟨[(4, vb (decide ((0 : Int) ≤ y1)))], [some (.row 1 [vk .u64 a1])]⟩) Sees.refl rfl rfl
theorem restore_choice_closed_ok (n : Nat) (a0 : List Int) (a1 : List (List Int)) (a2 : List Int) (a3 : Int) (r : Bool) (h : restore_choice_closed n a0 a1 a2 a3 = some r) : FnL Tryz.prog 134 [.ptr 0 0 0, vk .u64 a3] [some (.row 3 [.agg [.own 1 0 a0.length, .own 2 0 a1.length, .own 3 0 a2.length]]), some (.row 1 (List.map (vk .u64) a0)), some (.row 1 (List.map (eS 1 (vk .u64)) a1)), some (.row 1 (List.map vi a2))] (vb r) [some (.row 3 [.agg [.own 1 0 a0.length, .own 2 0 a1.length, .own 3 0 a2.length]]), some (.row 1 (List.map (vk .u64) a0)), some (.row 1 (List.map (eS 1 (vk .u64)) a1)), some (.row 1 (List.map vi a2))] := by
  dsimp only [restore_choice_closed] at h
  refine FnL.ofS (ts := [4]) Tryz.call134 Tryz.func134 rfl rfl (Nat.le_of_ble_eq_true rfl) (Nat.le_of_ble_eq_true rfl) (hall_of (.cons rfl (.cons rfl (.cons rfl (.cons rfl .nil))))) ?_
  refine sr [(0, .ptr 0 0 0), (3, .ptr 4 0 0)] [some (.row 3 [.agg [.own 1 0 a0.length, .own 2 0 a1.length, .own 3 0 a2.length]]), some (.row 1 (List.map (vk .u64) a0)), some (.row 1 (List.map (eS 1 (vk .u64)) a1)), some (.row 1 (List.map vi a2)), some (.row 1 [vk .u64 a3])] ?_
  refine TriE.seqK h (fun (_ : Unit) => St.mk [] [some (.row 3 [.agg [.own 1 0 a0.length, .own 2 0 a1.length, .own 3 0 a2.length]]), some (.row 1 (List.map (vk .u64) a0)), some (.row 1 (List.map (eS 1 (vk .u64)) a1)), some (.row 1 (List.map vi a2))]) ?_ ?_
  · rintro ⟨⟩ h
    refine sr [(4, vb true)] [some (.row 3 [.agg [.own 1 0 a0.length, .own 2 0 a1.length, .own 3 0 a2.length]]), some (.row 1 (List.map (vk .u64) a0)), some (.row 1 (List.map (eS 1 (vk .u64)) a1)), some (.row 1 (List.map vi a2))] ?_
    refine TriE.ret ?_
    have h := Option.some.inj h
    subst h
    exact DoneS.ret (S' := ⟨[(4, vb true)], [some (.row 3 [.agg [.own 1 0 a0.length, .own 2 0 a1.length, .own 3 0 a2.length]]), some (.row 1 (List.map (vk .u64) a0)), some (.row 1 (List.map (eS 1 (vk .u64)) a1)), some (.row 1 (List.map vi a2))]⟩) Sees.refl rfl rfl
  intro k2 h
  refine sr [(0, .ptr 0 0 0), (3, .ptr 4 0 0), (10, vi (a0.length : Int)), (11, vi 0)] [some (.row 3 [.agg [.own 1 0 a0.length, .own 2 0 a1.length, .own 3 0 a2.length]]), some (.row 1 (List.map (vk .u64) a0)), some (.row 1 (List.map (eS 1 (vk .u64)) a1)), some (.row 1 (List.map vi a2)), some (.row 1 [vk .u64 a3])] ?_
  refine TriE.block ?_
  refine TriE.sees (S' := ⟨[(0, .ptr 0 0 0), (3, .ptr 4 0 0), (10, vi (a0.length : Int)), (11, vi 0)], [some (.row 3 [.agg [.own 1 0 a0.length, .own 2 0 a1.length, .own 3 0 a2.length]]), some (.row 1 (List.map (vk .u64) a0)), some (.row 1 (List.map (eS 1 (vk .u64)) a1)), some (.row 1 (List.map vi a2)), some (.row 1 [vk .u64 a3])]⟩) sy ?_
  refine TriE.loopN h (fun (v2 : Nat) => St.mk [(0, .ptr 0 0 0), (3, .ptr 4 0 0), (10, vi (a0.length : Int)), (11, vi v2)] [some (.row 3 [.agg [.own 1 0 a0.length, .own 2 0 a1.length, .own 3 0 a2.length]]), some (.row 1 (List.map (vk .u64) a0)), some (.row 1 (List.map (eS 1 (vk .u64)) a1)), some (.row 1 (List.map vi a2)), some (.row 1 [vk .u64 a3])]) rfl ?_
  clear h
  rintro back v2 h
  dsimp only [restore_choice_closed_L1] at h
  refine sj ?_
  refine jv (vb (decide (v2 < a0.length))) (cy (I0 12 (.bin .lss false (.t 11) (.t 10)))) (n_lss (i := v2) (j := a0.length) rfl rfl) rfl ?_
  refine jp [(0, .ptr 0 0 0), (3, .ptr 4 0 0), (10, vi (a0.length : Int)), (11, vi v2), (12, vb (decide (v2 < a0.length)))] ?_
  refine TriE.seq ?_
  refine TriE.cond (b := decide (v2 < a0.length)) rfl (fun c1 => ?_) (fun c1 => ?_)
  · have h := cond_t h c1
    refine TriE.skip ?_
    refine TriE.seqK h (fun (_ : Unit) => St.mk [(0, .ptr 0 0 0), (3, .ptr 4 0 0), (10, vi (a0.length : Int)), (11, vi v2)] [some (.row 3 [.agg [.own 1 0 a0.length, .own 2 0 a1.length, .own 3 0 a2.length]]), some (.row 1 (List.map (vk .u64) a0)), some (.row 1 (List.map (eS 1 (vk .u64)) a1)), some (.row 1 (List.map vi a2)), some (.row 1 [vk .u64 a3])]) ?_ ?_
    · rintro ⟨⟩ h
      refine TriE.regJ ?_
      obtain ⟨c7, h⟩ := chk_some h
      refine jv (vi ((v2 + 1 : Nat) : Int)) (cy (I0 40 (.bin .add false (.t 11) (.c (.p (.int .i64 1)))))) (r_addn (i := v2) (j := 1) rfl rfl c7) rfl ?_
      refine jq 1 [(0, .ptr 0 0 0), (3, .ptr 4 0 0), (10, vi (a0.length : Int)), (11, vi ((v2 + 1 : Nat) : Int))] [some (.row 3 [.agg [.own 1 0 a0.length, .own 2 0 a1.length, .own 3 0 a2.length]]), some (.row 1 (List.map (vk .u64) a0)), some (.row 1 (List.map (eS 1 (vk .u64)) a1)), some (.row 1 (List.map vi a2)), some (.row 1 [vk .u64 a3])] ?_
      exact Vs.intro sy ⟨(v2 + 1), rfl, h⟩
    intro k1 h
    refine TriE.block ?_
    refine sr [(0, .ptr 0 0 0), (3, .ptr 4 0 0), (10, vi (a0.length : Int)), (11, vi v2), (5, vi v2)] [some (.row 3 [.agg [.own 1 0 a0.length, .own 2 0 a1.length, .own 3 0 a2.length]]), some (.row 1 (List.map (vk .u64) a0)), some (.row 1 (List.map (eS 1 (vk .u64)) a1)), some (.row 1 (List.map vi a2)), some (.row 1 [vk .u64 a3])] ?_
    refine TriE.seq ?_
    refine sj ?_
    refine rn 2 [(0, .ptr 0 0 0), (3, .ptr 4 0 0), (10, vi (a0.length : Int)), (11, vi v2), (5, vi v2), (14, vk .u64 a3), (15, vi v2)] [some (.row 3 [.agg [.own 1 0 a0.length, .own 2 0 a1.length, .own 3 0 a2.length]]), some (.row 1 (List.map (vk .u64) a0)), some (.row 1 (List.map (eS 1 (vk .u64)) a1)), some (.row 1 (List.map vi a2)), some (.row 1 [vk .u64 a3])] ?_
    obtain ⟨c2, h⟩ := chk_some h
    refine jv (vk .u64 (Int.fdiv a3 (2 ^ (min (v2 : Int).toNat 64)))) (cy (I0 16 (.bin .shr false (.t 14) (.t 15)))) (r_shr rfl rfl c2) rfl ?_
    refine jq 2 [(0, .ptr 0 0 0), (3, .ptr 4 0 0), (10, vi (a0.length : Int)), (11, vi v2), (5, vi v2), (18, vb ((iAnd .u64 (Int.fdiv a3 (2 ^ (min (v2 : Int).toNat 64))) 1) == (0 : Int)))] [some (.row 3 [.agg [.own 1 0 a0.length, .own 2 0 a1.length, .own 3 0 a2.length]]), some (.row 1 (List.map (vk .u64) a0)), some (.row 1 (List.map (eS 1 (vk .u64)) a1)), some (.row 1 (List.map vi a2)), some (.row 1 [vk .u64 a3])] ?_
    refine TriE.cond (b := ((iAnd .u64 (Int.fdiv a3 (2 ^ (min (v2 : Int).toNat 64))) 1) == (0 : Int))) rfl (fun c3 => ?_) (fun c3 => ?_)
    · have h := cond_t h c3
      refine TriE.exit ?_
      exact Vs.intro sy ⟨(), rfl, h⟩
    have h := cond_f h c3
    refine TriE.skip ?_
    refine TriE.seq ?_
    refine TriE.sees (Sees.less (fr' := [(0, .ptr 0 0 0), (3, .ptr 4 0 0), (10, vi (a0.length : Int)), (11, vi v2), (5, vi v2)]) (.cons rfl (.cons rfl (.cons rfl (.cons rfl (.cons rfl .nil)))))) ?_
    refine TriE.draw (by kernel_rfl) ?_
    refine RegD.run 5 [(23, vi v2), (22, .own 1 0 a0.length), (21, .ptr 0 0 0), (20, .ptr 0 0 0), (19, .ptr 0 0 0), (0, .ptr 0 0 0), (3, .ptr 4 0 0), (10, vi (a0.length : Int)), (11, vi v2), (5, vi v2)] [some (.row 3 [.agg [.own 1 0 a0.length, .own 2 0 a1.length, .own 3 0 a2.length]]), some (.row 1 (List.map (vk .u64) a0)), some (.row 1 (List.map (eS 1 (vk .u64)) a1)), some (.row 1 (List.map vi a2)), some (.row 1 [vk .u64 a3]), none, none, none, none, none] (by kernel_rfl) ?_
    refine dv (.ptr 1 v2 0) (cy (I0 24 (.iaddr 1 (.t 22) (.t 23)))) (ok_iaddr_o0 (j := v2) rfl rfl rfl rfl c1) rfl ?_
    refine dv (vk .u64 (ix a0 v2)) (cy (I0 25 (.load false 1 (.t 24)))) (ok_load_pm (l := a0) (e := (vk .u64)) (v := vk .u64 (ix a0 v2)) rfl rfl c1 rfl) rfl ?_
    refine RegD.run 4 [(29, vb ((iAndNot .u64 (ix a0 v2) a3) != (0 : Int))), (28, vb ((iAndNot .u64 (ix a0 v2) a3) != (0 : Int))), (27, vk .u64 (iAndNot .u64 (ix a0 v2) a3)), (26, vk .u64 a3), (25, vk .u64 (ix a0 v2)), (24, .ptr 1 v2 0), (23, vi v2), (22, .own 1 0 a0.length), (21, .ptr 0 0 0), (20, .ptr 0 0 0), (19, .ptr 0 0 0), (0, .ptr 0 0 0), (3, .ptr 4 0 0), (10, vi (a0.length : Int)), (11, vi v2), (5, vi v2)] [some (.row 3 [.agg [.own 1 0 a0.length, .own 2 0 a1.length, .own 3 0 a2.length]]), some (.row 1 (List.map (vk .u64) a0)), some (.row 1 (List.map (eS 1 (vk .u64)) a1)), some (.row 1 (List.map vi a2)), some (.row 1 [vk .u64 a3]), none, none, none, none, none, none, none, none, none, none, none] (by kernel_rfl) ?_
    refine RegD.op (OpD.valk (g := !((iAndNot .u64 (ix a0 v2) a3) != (0 : Int))) (v := .ptr 0 0 0) _ _ (cy (IG 30 (.mov (.t 0)) 29 false)) rfl (by kernel_rfl) (fun hg => (.cons rfl .nil))) ?_
    refine RegD.op (OpD.valk (g := !((iAndNot .u64 (ix a0 v2) a3) != (0 : Int))) (v := .ptr 0 0 0) _ _ (cy (IG 31 (.nilchk (.t 30)) 29 false)) rfl (by kernel_rfl) (fun hg => (.cons hg .nil))) ?_
    refine RegD.op (OpD.valk (g := !((iAndNot .u64 (ix a0 v2) a3) != (0 : Int))) (v := .ptr 0 0 1) _ _ (cy (IG 32 (.faddr 1 (.t 31)) 29 false)) rfl (by kernel_rfl) (fun hg => (.cons hg .nil))) ?_
    refine RegD.op (OpD.valk (g := !((iAndNot .u64 (ix a0 v2) a3) != (0 : Int))) (v := .own 2 0 a1.length) _ _ (cy (IG 33 (.load false 1 (.t 32)) 29 false)) rfl (by kernel_rfl) (fun hg => (.cons hg .nil))) ?_
    refine RegD.op (OpD.valk (g := !((iAndNot .u64 (ix a0 v2) a3) != (0 : Int))) (v := vi v2) _ _ (cy (IG 34 (.mov (.t 5)) 29 false)) rfl (by kernel_rfl) (fun hg => (.cons rfl .nil))) ?_
    obtain ⟨c4, h⟩ := chk_some h
    refine RegD.op (OpD.valg (g := !((iAndNot .u64 (ix a0 v2) a3) != (0 : Int))) (v := .ptr 2 v2 0) _ _ (cy (IG 35 (.iaddr 1 (.t 33) (.t 34)) 29 false)) rfl (fun hg => (ok_iaddr_o0 (j := v2) rfl rfl rfl rfl (gor c4 hg))) (fun hg => (.cons hg (.cons hg .nil)))) ?_
    obtain ⟨c5, h⟩ := chk_some h
    refine RegD.op (OpD.valg (g := !((iAndNot .u64 (ix a0 v2) a3) != (0 : Int))) (v := eS 1 (vk .u64) (ix a1 v2)) _ _ (cy (IG 36 (.load false 1 (.t 35)) 29 false)) rfl (fun hg => (ok_load_pm (l := a1) (e := (eS 1 (vk .u64))) (v := eS 1 (vk .u64) (ix a1 v2)) rfl rfl (gor c5 hg) rfl)) (fun hg => (.cons hg .nil))) ?_
    refine RegD.op (OpD.valk (g := !((iAndNot .u64 (ix a0 v2) a3) != (0 : Int))) (v := .fn (.func 182) [] [.ptr 4 0 0]) _ _ (cy (IG 37 (.mkfn (.func 182) [] [(.t 3)]) 29 false)) rfl (by kernel_rfl) (fun hg => (.cons rfl .nil))) ?_
    obtain ⟨y3, hy3, h⟩ := bind_some h
    refine RegD.op (OpD.callg (g := !((iAndNot .u64 (ix a0 v2) a3) != (0 : Int))) (y' := vb y3) (obx := [some (.row 1 [vk .u64 a3])]) _ _ (cy (IG 38 (.call 181 [(.t 36), (.t 37)]) 29 false)) rfl (fun hg => slices_ContainsFunc_bitset_ok n (ix a1 v2) a3 y3 (gcall_some hy3 hg)) [4] (fun hg => by kernel_rfl) (fun hg => (.cons rfl (.cons hg (.cons hg .nil)))) (by kernel_rfl) (by kernel_rfl) (.cons rfl .nil) (by kernel_rfl) (by kernel_rfl) rfl) ?_
    refine RegD.op (OpD.or (cy (I0 39 (.pick (.t 29) (.c (.p (.bool true))) (.t 38)))) rfl rfl (by first | exact hokO1 | exact hokO0 | simp)) ?_
    refine RegD.done rfl (by kernel_rfl) (S' := ⟨[(0, .ptr 0 0 0), (3, .ptr 4 0 0), (10, vi (a0.length : Int)), (11, vi v2), (39, vb (((iAndNot .u64 (ix a0 v2) a3) != (0 : Int)) || y3))], [some (.row 3 [.agg [.own 1 0 a0.length, .own 2 0 a1.length, .own 3 0 a2.length]]), some (.row 1 (List.map (vk .u64) a0)), some (.row 1 (List.map (eS 1 (vk .u64)) a1)), some (.row 1 (List.map vi a2)), some (.row 1 [vk .u64 a3])]⟩) (sc [0, 1, 2, 3, 4] (by decide) (by kernel_rfl) (.cons rfl (obRen_row (vk_frz .u64) rfl (obRen_row (eS_frz 1 (vk .u64)) rfl (obRen_row vi_frz rfl (.cons rfl .nil))))) rfl rfl) ?_
    refine TriE.cond (b := ((iAndNot .u64 (ix a0 v2) a3) != (0 : Int)) || y3) rfl (fun c6 => ?_) (fun c6 => ?_)
    · have h := cond_t h c6
      refine sr [(4, vb false)] [some (.row 3 [.agg [.own 1 0 a0.length, .own 2 0 a1.length, .own 3 0 a2.length]]), some (.row 1 (List.map (vk .u64) a0)), some (.row 1 (List.map (eS 1 (vk .u64)) a1)), some (.row 1 (List.map vi a2)), some (.row 1 [vk .u64 a3])] ?_
      refine TriE.ret ?_
      have h := Option.some.inj h
      subst h
      exact DoneS.ret (S' := ⟨[(4, vb false)], [some (.row 3 [.agg [.own 1 0 a0.length, .own 2 0 a1.length, .own 3 0 a2.length]]), some (.row 1 (List.map (vk .u64) a0)), some (.row 1 (List.map (eS 1 (vk .u64)) a1)), some (.row 1 (List.map vi a2))]⟩) (sc [0, 1, 2, 3] (by decide) (by kernel_rfl) (.cons rfl (obRen_row (vk_frz .u64) rfl (obRen_row (eS_frz 1 (vk .u64)) rfl (obRen_row vi_frz rfl .nil)))) rfl rfl) rfl rfl
    have h := cond_f h c6
    refine TriE.skip ?_
    exact Vs.intro sy ⟨(), rfl, h⟩
  have h := cond_f h c1
  refine TriE.exit ?_
  exact Vs.intro (sc [0, 1, 2, 3] (by decide) (by kernel_rfl) (.cons rfl (obRen_row (vk_frz .u64) rfl (obRen_row (eS_frz 1 (vk .u64)) rfl (obRen_row vi_frz rfl .nil)))) rfl rfl) ⟨(), rfl, h⟩
theorem math_bits_Len64_ok (n : Nat) (a0 : Int) (r : Int) (h : math_bits_Len64 n a0 = some r) : FnL Tryz.prog 200 [vk .u64 a0] [] (vi r) [] := by
  dsimp only [math_bits_Len64] at h
  refine FnL.ofS (ts := [2]) Tryz.call200 Tryz.func200 rfl rfl (Nat.le_of_ble_eq_true rfl) (Nat.le_of_ble_eq_true rfl) (fun j h => absurd h (Nat.not_lt_zero j)) ?_
  refine sr [(0, vk .u64 a0), (2, vi 0)] [] ?_
  refine TriE.seqK h (fun (t : Int × Int) => match t with | (v1, v2) => St.mk [(0, vk .u64 v1), (2, vi v2)] []) ?_ ?_
  · rintro ⟨v1, v2⟩ h
    refine TriE.seqK h (fun (t : Int × Int) => match t with | (v3, v4) => St.mk [(0, vk .u64 v3), (2, vi v4)] []) ?_ ?_
    · rintro ⟨v3, v4⟩ h
      refine TriE.seqK h (fun (t : Int × Int) => match t with | (v5, v6) => St.mk [(0, vk .u64 v5), (2, vi v6)] []) ?_ ?_
      · rintro ⟨v5, v6⟩ h
        refine sj ?_
        refine rn 3 [(19, vi v6), (21, vk .u8 (IntKind.u8.wrap v5))] [] ?_
        obtain ⟨c6, h⟩ := chk_some h
        refine jv (vk .u8 (((List.getD ([0, 1, 2, 2, 3, 3, 3, 3, 4, 4, 4, 4, 4, 4, 4, 4, 5, 5, 5, 5, 5, 5, 5, 5, 5, 5, 5, 5, 5, 5, 5, 5, 6, 6, 6, 6, 6, 6, 6, 6, 6, 6, 6, 6, 6, 6, 6, 6, 6, 6, 6, 6, 6, 6, 6, 6, 6, 6, 6, 6, 6, 6, 6, 6, 7, 7, 7, 7, 7, 7, 7, 7, 7, 7, 7, 7, 7, 7, 7, 7, 7, 7, 7, 7, 7, 7, 7, 7, 7, 7, 7, 7, 7, 7, 7, 7, 7, 7, 7, 7, 7, 7, 7, 7, 7, 7, 7, 7, 7, 7, 7, 7, 7, 7, 7, 7, 7, 7, 7, 7, 7, 7, 7, 7, 7, 7, 7, 7, 8, 8, 8, 8, 8, 8, 8, 8, 8, 8, 8, 8, 8, 8, 8, 8, 8, 8, 8, 8, 8, 8, 8, 8, 8, 8, 8, 8, 8, 8, 8, 8, 8, 8, 8, 8, 8, 8, 8, 8, 8, 8, 8, 8, 8, 8, 8, 8, 8, 8, 8, 8, 8, 8, 8, 8, 8, 8, 8, 8, 8, 8, 8, 8, 8, 8, 8, 8, 8, 8, 8, 8, 8, 8, 8, 8, 8, 8, 8, 8, 8, 8, 8, 8, 8, 8, 8, 8, 8, 8, 8, 8, 8, 8, 8, 8, 8, 8, 8, 8, 8, 8, 8, 8, 8, 8, 8, 8, 8, 8, 8, 8, 8, 8, 8, 8, 8, 8, 8, 8, 8, 8, 8, 8, 8, 8, 8, 8] : Str) ((IntKind.u8.wrap v5).toNat) 0).toNat : Nat) : Int)) (cy (I0 22 (.sidx (.c (.p (.string ⟨#[0, 1, 2, 2, 3, 3, 3, 3, 4, 4, 4, 4, 4, 4, 4, 4, 5, 5, 5, 5, 5, 5, 5, 5, 5, 5, 5, 5, 5, 5, 5, 5, 6, 6, 6, 6, 6, 6, 6, 6, 6, 6, 6, 6, 6, 6, 6, 6, 6, 6, 6, 6, 6, 6, 6, 6, 6, 6, 6, 6, 6, 6, 6, 6, 7, 7, 7, 7, 7, 7, 7, 7, 7, 7, 7, 7, 7, 7, 7, 7, 7, 7, 7, 7, 7, 7, 7, 7, 7, 7, 7, 7, 7, 7, 7, 7, 7, 7, 7, 7, 7, 7, 7, 7, 7, 7, 7, 7, 7, 7, 7, 7, 7, 7, 7, 7, 7, 7, 7, 7, 7, 7, 7, 7, 7, 7, 7, 7, 8, 8, 8, 8, 8, 8, 8, 8, 8, 8, 8, 8, 8, 8, 8, 8, 8, 8, 8, 8, 8, 8, 8, 8, 8, 8, 8, 8, 8, 8, 8, 8, 8, 8, 8, 8, 8, 8, 8, 8, 8, 8, 8, 8, 8, 8, 8, 8, 8, 8, 8, 8, 8, 8, 8, 8, 8, 8, 8, 8, 8, 8, 8, 8, 8, 8, 8, 8, 8, 8, 8, 8, 8, 8, 8, 8, 8, 8, 8, 8, 8, 8, 8, 8, 8, 8, 8, 8, 8, 8, 8, 8, 8, 8, 8, 8, 8, 8, 8, 8, 8, 8, 8, 8, 8, 8, 8, 8, 8, 8, 8, 8, 8, 8, 8, 8, 8, 8, 8, 8, 8, 8, 8, 8, 8, 8, 8, 8]⟩))) (.t 21)))) (ok_sidx_t (j := (IntKind.u8.wrap v5).toNat) rfl rfl (inB_to c6) (inB_lt c6)) rfl ?_
        refine jv (vi (((List.getD ([0, 1, 2, 2, 3, 3, 3, 3, 4, 4, 4, 4, 4, 4, 4, 4, 5, 5, 5, 5, 5, 5, 5, 5, 5, 5, 5, 5, 5, 5, 5, 5, 6, 6, 6, 6, 6, 6, 6, 6, 6, 6, 6, 6, 6, 6, 6, 6, 6, 6, 6, 6, 6, 6, 6, 6, 6, 6, 6, 6, 6, 6, 6, 6, 7, 7, 7, 7, 7, 7, 7, 7, 7, 7, 7, 7, 7, 7, 7, 7, 7, 7, 7, 7, 7, 7, 7, 7, 7, 7, 7, 7, 7, 7, 7, 7, 7, 7, 7, 7, 7, 7, 7, 7, 7, 7, 7, 7, 7, 7, 7, 7, 7, 7, 7, 7, 7, 7, 7, 7, 7, 7, 7, 7, 7, 7, 7, 7, 8, 8, 8, 8, 8, 8, 8, 8, 8, 8, 8, 8, 8, 8, 8, 8, 8, 8, 8, 8, 8, 8, 8, 8, 8, 8, 8, 8, 8, 8, 8, 8, 8, 8, 8, 8, 8, 8, 8, 8, 8, 8, 8, 8, 8, 8, 8, 8, 8, 8, 8, 8, 8, 8, 8, 8, 8, 8, 8, 8, 8, 8, 8, 8, 8, 8, 8, 8, 8, 8, 8, 8, 8, 8, 8, 8, 8, 8, 8, 8, 8, 8, 8, 8, 8, 8, 8, 8, 8, 8, 8, 8, 8, 8, 8, 8, 8, 8, 8, 8, 8, 8, 8, 8, 8, 8, 8, 8, 8, 8, 8, 8, 8, 8, 8, 8, 8, 8, 8, 8, 8, 8, 8, 8, 8, 8, 8, 8] : Str) ((IntKind.u8.wrap v5).toNat) 0).toNat : Nat) : Int)) (cy (I0 23 (.conv .i64 (.t 22)))) (ok_convb (c := (List.getD ([0, 1, 2, 2, 3, 3, 3, 3, 4, 4, 4, 4, 4, 4, 4, 4, 5, 5, 5, 5, 5, 5, 5, 5, 5, 5, 5, 5, 5, 5, 5, 5, 6, 6, 6, 6, 6, 6, 6, 6, 6, 6, 6, 6, 6, 6, 6, 6, 6, 6, 6, 6, 6, 6, 6, 6, 6, 6, 6, 6, 6, 6, 6, 6, 7, 7, 7, 7, 7, 7, 7, 7, 7, 7, 7, 7, 7, 7, 7, 7, 7, 7, 7, 7, 7, 7, 7, 7, 7, 7, 7, 7, 7, 7, 7, 7, 7, 7, 7, 7, 7, 7, 7, 7, 7, 7, 7, 7, 7, 7, 7, 7, 7, 7, 7, 7, 7, 7, 7, 7, 7, 7, 7, 7, 7, 7, 7, 7, 8, 8, 8, 8, 8, 8, 8, 8, 8, 8, 8, 8, 8, 8, 8, 8, 8, 8, 8, 8, 8, 8, 8, 8, 8, 8, 8, 8, 8, 8, 8, 8, 8, 8, 8, 8, 8, 8, 8, 8, 8, 8, 8, 8, 8, 8, 8, 8, 8, 8, 8, 8, 8, 8, 8, 8, 8, 8, 8, 8, 8, 8, 8, 8, 8, 8, 8, 8, 8, 8, 8, 8, 8, 8, 8, 8, 8, 8, 8, 8, 8, 8, 8, 8, 8, 8, 8, 8, 8, 8, 8, 8, 8, 8, 8, 8, 8, 8, 8, 8, 8, 8, 8, 8, 8, 8, 8, 8, 8, 8, 8, 8, 8, 8, 8, 8, 8, 8, 8, 8, 8, 8, 8, 8, 8, 8, 8, 8] : Str) ((IntKind.u8.wrap v5).toNat) 0)) rfl) rfl ?_
        obtain ⟨c7, h⟩ := chk_some h
        refine jv (vi (v6 + (((List.getD ([0, 1, 2, 2, 3, 3, 3, 3, 4, 4, 4, 4, 4, 4, 4, 4, 5, 5, 5, 5, 5, 5, 5, 5, 5, 5, 5, 5, 5, 5, 5, 5, 6, 6, 6, 6, 6, 6, 6, 6, 6, 6, 6, 6, 6, 6, 6, 6, 6, 6, 6, 6, 6, 6, 6, 6, 6, 6, 6, 6, 6, 6, 6, 6, 7, 7, 7, 7, 7, 7, 7, 7, 7, 7, 7, 7, 7, 7, 7, 7, 7, 7, 7, 7, 7, 7, 7, 7, 7, 7, 7, 7, 7, 7, 7, 7, 7, 7, 7, 7, 7, 7, 7, 7, 7, 7, 7, 7, 7, 7, 7, 7, 7, 7, 7, 7, 7, 7, 7, 7, 7, 7, 7, 7, 7, 7, 7, 7, 8, 8, 8, 8, 8, 8, 8, 8, 8, 8, 8, 8, 8, 8, 8, 8, 8, 8, 8, 8, 8, 8, 8, 8, 8, 8, 8, 8, 8, 8, 8, 8, 8, 8, 8, 8, 8, 8, 8, 8, 8, 8, 8, 8, 8, 8, 8, 8, 8, 8, 8, 8, 8, 8, 8, 8, 8, 8, 8, 8, 8, 8, 8, 8, 8, 8, 8, 8, 8, 8, 8, 8, 8, 8, 8, 8, 8, 8, 8, 8, 8, 8, 8, 8, 8, 8, 8, 8, 8, 8, 8, 8, 8, 8, 8, 8, 8, 8, 8, 8, 8, 8, 8, 8, 8, 8, 8, 8, 8, 8, 8, 8, 8, 8, 8, 8, 8, 8, 8, 8, 8, 8, 8, 8, 8, 8, 8, 8] : Str) ((IntKind.u8.wrap v5).toNat) 0).toNat : Nat) : Int))) (cy (I0 24 (.bin .add false (.t 19) (.t 23)))) (r_add rfl rfl c7) rfl ?_
        refine jq 1 [(2, vi (v6 + (((List.getD ([0, 1, 2, 2, 3, 3, 3, 3, 4, 4, 4, 4, 4, 4, 4, 4, 5, 5, 5, 5, 5, 5, 5, 5, 5, 5, 5, 5, 5, 5, 5, 5, 6, 6, 6, 6, 6, 6, 6, 6, 6, 6, 6, 6, 6, 6, 6, 6, 6, 6, 6, 6, 6, 6, 6, 6, 6, 6, 6, 6, 6, 6, 6, 6, 7, 7, 7, 7, 7, 7, 7, 7, 7, 7, 7, 7, 7, 7, 7, 7, 7, 7, 7, 7, 7, 7, 7, 7, 7, 7, 7, 7, 7, 7, 7, 7, 7, 7, 7, 7, 7, 7, 7, 7, 7, 7, 7, 7, 7, 7, 7, 7, 7, 7, 7, 7, 7, 7, 7, 7, 7, 7, 7, 7, 7, 7, 7, 7, 8, 8, 8, 8, 8, 8, 8, 8, 8, 8, 8, 8, 8, 8, 8, 8, 8, 8, 8, 8, 8, 8, 8, 8, 8, 8, 8, 8, 8, 8, 8, 8, 8, 8, 8, 8, 8, 8, 8, 8, 8, 8, 8, 8, 8, 8, 8, 8, 8, 8, 8, 8, 8, 8, 8, 8, 8, 8, 8, 8, 8, 8, 8, 8, 8, 8, 8, 8, 8, 8, 8, 8, 8, 8, 8, 8, 8, 8, 8, 8, 8, 8, 8, 8, 8, 8, 8, 8, 8, 8, 8, 8, 8, 8, 8, 8, 8, 8, 8, 8, 8, 8, 8, 8, 8, 8, 8, 8, 8, 8, 8, 8, 8, 8, 8, 8, 8, 8, 8, 8, 8, 8, 8, 8, 8, 8, 8, 8] : Str) ((IntKind.u8.wrap v5).toNat) 0).toNat : Nat) : Int)))] [] ?_
        refine TriE.ret ?_
        have h := Option.some.inj h
        subst h
        exact DoneS.ret (S' := ⟨[(2, vi (v6 + (((List.getD ([0, 1, 2, 2, 3, 3, 3, 3, 4, 4, 4, 4, 4, 4, 4, 4, 5, 5, 5, 5, 5, 5, 5, 5, 5, 5, 5, 5, 5, 5, 5, 5, 6, 6, 6, 6, 6, 6, 6, 6, 6, 6, 6, 6, 6, 6, 6, 6, 6, 6, 6, 6, 6, 6, 6, 6, 6, 6, 6, 6, 6, 6, 6, 6, 7, 7, 7, 7, 7, 7, 7, 7, 7, 7, 7, 7, 7, 7, 7, 7, 7, 7, 7, 7, 7, 7, 7, 7, 7, 7, 7, 7, 7, 7, 7, 7, 7, 7, 7, 7, 7, 7, 7, 7, 7, 7, 7, 7, 7, 7, 7, 7, 7, 7, 7, 7, 7, 7, 7, 7, 7, 7, 7, 7, 7, 7, 7, 7, 8, 8, 8, 8, 8, 8, 8, 8, 8, 8, 8, 8, 8, 8, 8, 8, 8, 8, 8, 8, 8, 8, 8, 8, 8, 8, 8, 8, 8, 8, 8, 8, 8, 8, 8, 8, 8, 8, 8, 8, 8, 8, 8, 8, 8, 8, 8, 8, 8, 8, 8, 8, 8, 8, 8, 8, 8, 8, 8, 8, 8, 8, 8, 8, 8, 8, 8, 8, 8, 8, 8, 8, 8, 8, 8, 8, 8, 8, 8, 8, 8, 8, 8, 8, 8, 8, 8, 8, 8, 8, 8, 8, 8, 8, 8, 8, 8, 8, 8, 8, 8, 8, 8, 8, 8, 8, 8, 8, 8, 8, 8, 8, 8, 8, 8, 8, 8, 8, 8, 8, 8, 8, 8, 8, 8, 8, 8, 8] : Str) ((IntKind.u8.wrap v5).toNat) 0).toNat : Nat) : Int)))], []⟩) Sees.refl rfl rfl
      intro k3 h
      refine sr [(0, vk .u64 v3), (2, vi v4), (14, vb (decide ((256 : Int) ≤ v3)))] [] ?_
      refine TriE.cond (b := decide ((256 : Int) ≤ v3)) rfl (fun c4 => ?_) (fun c4 => ?_)
      · have h := cond_t h c4
        refine sr [(2, vi v4), (0, vk .u64 (Int.fdiv v3 (2 ^ (min 8 64))))] [] ?_
        refine TriE.regJ ?_
        refine rn 1 [(0, vk .u64 (Int.fdiv v3 (2 ^ (min 8 64)))), (17, vi v4)] [] ?_
        obtain ⟨c5, h⟩ := chk_some h
        refine jv (vi (v4 + 8)) (cy (I0 18 (.bin .add false (.t 17) (.c (.p (.int .i64 8)))))) (r_add rfl rfl c5) rfl ?_
        refine jq 1 [(0, vk .u64 (Int.fdiv v3 (2 ^ (min 8 64)))), (2, vi (v4 + 8))] [] ?_
        exact Vs.intro Sees.refl ⟨(Int.fdiv v3 (2 ^ (min 8 64)), v4 + 8), rfl, h⟩
      have h := cond_f h c4
      refine TriE.skip ?_
      exact Vs.intro sy ⟨(v3, v4), rfl, h⟩
    intro k2 h
    refine sr [(0, vk .u64 v1), (2, vi v2), (8, vb (decide ((65536 : Int) ≤ v1)))] [] ?_
    refine TriE.cond (b := decide ((65536 : Int) ≤ v1)) rfl (fun c2 => ?_) (fun c2 => ?_)
    · have h := cond_t h c2
      refine sr [(2, vi v2), (0, vk .u64 (Int.fdiv v1 (2 ^ (min 16 64))))] [] ?_
      refine TriE.regJ ?_
      refine rn 1 [(0, vk .u64 (Int.fdiv v1 (2 ^ (min 16 64)))), (11, vi v2)] [] ?_
      obtain ⟨c3, h⟩ := chk_some h
      refine jv (vi (v2 + 16)) (cy (I0 12 (.bin .add false (.t 11) (.c (.p (.int .i64 16)))))) (r_add rfl rfl c3) rfl ?_
      refine jq 1 [(0, vk .u64 (Int.fdiv v1 (2 ^ (min 16 64)))), (2, vi (v2 + 16))] [] ?_
      exact Vs.intro Sees.refl ⟨(Int.fdiv v1 (2 ^ (min 16 64)), v2 + 16), rfl, h⟩
    have h := cond_f h c2
    refine TriE.skip ?_
    exact Vs.intro sy ⟨(v1, v2), rfl, h⟩
  intro k1 h
  refine sr [(0, vk .u64 a0), (2, vi 0), (4, vb (decide ((4294967296 : Int) ≤ a0)))] [] ?_
  refine TriE.cond (b := decide ((4294967296 : Int) ≤ a0)) rfl (fun c1 => ?_) (fun c1 => ?_)
  · have h := cond_t h c1
    refine sr [(0, vk .u64 (Int.fdiv a0 (2 ^ (min 32 64))))] [] ?_
    refine tr [(0, vk .u64 (Int.fdiv a0 (2 ^ (min 32 64)))), (2, vi 32)] [] ?_
    exact Vs.intro Sees.refl ⟨(Int.fdiv a0 (2 ^ (min 32 64)), 32), rfl, h⟩
  have h := cond_f h c1
  refine TriE.skip ?_
  exact Vs.intro sy ⟨(a0, 0), rfl, h⟩
theorem math_bits_Len_ok (n : Nat) (a0 : Int) (r : Int) (h : math_bits_Len n a0 = some r) : FnL Tryz.prog 166 [vk .u64 a0] [] (vi r) [] := by
  dsimp only [math_bits_Len] at h
  refine FnL.ofS (ts := [2]) Tryz.call166 Tryz.func166 rfl rfl (Nat.le_of_ble_eq_true rfl) (Nat.le_of_ble_eq_true rfl) (fun j h => absurd h (Nat.not_lt_zero j)) ?_
  refine sr [(0, vk .u64 a0)] [] ?_
  refine TriE.seq ?_
  refine TriE.cond (b := false) rfl (fun c1 => ?_) (fun c1 => ?_)
  · cases c1
  refine TriE.skip ?_
  refine sj ?_
  refine rn 1 [(6, vk .u64 a0)] [] ?_
  obtain ⟨y1, hy1, h⟩ := bind_some h
  refine RegJ.op (Op1.call (y' := vi y1) (obx := []) (oby := []) (ob2 := []) _ _ (cy (I0 7 (.call 200 [(.t 6)]))) rfl (math_bits_Len64_ok n a0 y1 hy1) [] (by kernel_rfl) (.cons rfl (.cons rfl .nil)) (by kernel_rfl) (by kernel_rfl) ObsRen.nil (by kernel_rfl) ObsRen.nil (by kernel_rfl)) ?_
  refine jq 1 [(2, vi y1)] [] ?_
  refine TriE.ret ?_
  have h := Option.some.inj h
  subst h
  exact DoneS.ret (S' := ⟨[(2, vi y1)], []⟩) Sees.refl rfl rfl
theorem cmp_isNaN_string_ok (n : Nat) (a0 : Str) (r : Unit) (h : cmp_isNaN_string n a0 = some r) : FnL Tryz.prog 186 [vt a0] [] (vb (!(a0 == a0))) [] := by
  dsimp only [cmp_isNaN_string] at h
  refine FnL.ofS (ts := [2]) Tryz.call186 Tryz.func186 rfl rfl (Nat.le_of_ble_eq_true rfl) (Nat.le_of_ble_eq_true rfl) (fun j h => absurd h (Nat.not_lt_zero j)) ?_
  refine sr [(0, vt a0)] [] ?_
  refine sr [(2, vb (!(a0 == a0)))] [] ?_
  refine TriE.ret ?_
  have h := Option.some.inj h
  subst h
  exact DoneS.ret (S' := ⟨[(2, vb (!(a0 == a0)))], []⟩) Sees.refl rfl rfl
theorem cmp_Less_string_ok (n : Nat) (a0 : Str) (a1 : Str) (r : Unit) (h : cmp_Less_string n a0 a1 = some r) : FnL Tryz.prog 196 [vt a0, vt a1] [] (vb (((!(a0 == a0)) && (!(!(a1 == a1)))) || (bLt a0 a1))) [] := by
  dsimp only [cmp_Less_string] at h
  refine FnL.ofS (ts := [4]) Tryz.call196 Tryz.func196 rfl rfl (Nat.le_of_ble_eq_true rfl) (Nat.le_of_ble_eq_true rfl) (fun j h => absurd h (Nat.not_lt_zero j)) ?_
  refine sr [(0, vt a0), (1, vt a1)] [] ?_
  refine sj ?_
  refine rn 1 [(0, vt a0), (1, vt a1), (5, vt a0)] [] ?_
  obtain ⟨y1, hy1, h⟩ := bind_some h
  refine RegJ.op (Op1.call (y' := vb (!(a0 == a0))) (obx := []) (oby := []) (ob2 := []) _ _ (cy (I0 6 (.call 186 [(.t 5)]))) rfl (cmp_isNaN_string_ok n a0 y1 hy1) [] (by kernel_rfl) (.cons rfl (.cons rfl .nil)) (by kernel_rfl) (by kernel_rfl) ObsRen.nil (by kernel_rfl) ObsRen.nil (by kernel_rfl)) ?_
  refine rn 1 [(0, vt a0), (1, vt a1), (7, vb (!(a0 == a0)))] [] ?_
  refine RegJ.op (Op1.valk (v := vt a1) _ _ (cy (IG 8 (.mov (.t 1)) 7 true)) rfl (by kernel_rfl) (fun hg => (.cons rfl .nil))) ?_
  obtain ⟨y2, hy2, h⟩ := bind_some h
  refine RegJ.op (Op1.callg (g := !(a0 == a0)) (y' := vb (!(a1 == a1))) (obx := []) _ _ (cy (IG 9 (.call 186 [(.t 8)]) 7 true)) rfl (fun hg => cmp_isNaN_string_ok n a1 y2 (gcall_some hy2 hg)) [] (fun hg => by kernel_rfl) (fun hg => (.cons rfl (.cons hg .nil))) (by kernel_rfl) (by kernel_rfl) ObsRen.nil (by kernel_rfl) (by kernel_rfl)) ?_
  refine RegJ.op (Op1.valk (v := vb (!(!(a1 == a1)))) _ _ (cy (IG 10 (.un .not (.t 9)) 7 true)) rfl (by kernel_rfl) (fun hg => (.cons hg .nil))) ?_
  refine RegJ.op (Op1.and (cy (I0 11 (.pick (.t 7) (.t 10) (.c (.p (.bool false)))))) rfl rfl (by first | exact hokA1 | exact hokA0 | simp)) ?_
  refine rn 1 [(0, vt a0), (1, vt a1), (12, vb ((!(a0 == a0)) && (!(!(a1 == a1)))))] [] ?_
  refine RegJ.op (Op1.valk (v := vt a0) _ _ (cy (IG 13 (.mov (.t 0)) 12 false)) rfl (by kernel_rfl) (fun hg => (.cons rfl .nil))) ?_
  refine RegJ.op (Op1.valk (v := vt a1) _ _ (cy (IG 14 (.mov (.t 1)) 12 false)) rfl (by kernel_rfl) (fun hg => (.cons rfl .nil))) ?_
  refine RegJ.op (Op1.valk (v := vb (bLt a0 a1)) _ _ (cy (IG 15 (.bin .lss false (.t 13) (.t 14)) 12 false)) rfl (by kernel_rfl) (fun hg => (.cons hg (.cons hg .nil)))) ?_
  refine RegJ.op (Op1.or (cy (I0 16 (.pick (.t 12) (.c (.p (.bool true))) (.t 15)))) rfl rfl (by first | exact hokO1 | exact hokO0 | simp)) ?_
  refine jq 1 [(4, vb (((!(a0 == a0)) && (!(!(a1 == a1)))) || (bLt a0 a1)))] [] ?_
  refine TriE.ret ?_
  have h := Option.some.inj h
  subst h
  exact DoneS.ret (S' := ⟨[(4, vb (((!(a0 == a0)) && (!(!(a1 == a1)))) || (bLt a0 a1)))], []⟩) Sees.refl rfl rfl
theorem slices_insertionSortOrdered_string_ok (n : Nat) (a0 : List Str) (a1 : Int) (a2 : Int) (r : (List Str)) (h : slices_insertionSortOrdered_string n a0 a1 a2 = some r) : FnL Tryz.prog 190 [.own 0 0 a0.length, vi a1, vi a2] [some (.row 1 (List.map vt a0))] (.tup []) [some (.row 1 (List.map vt r))] := by
  dsimp only [slices_insertionSortOrdered_string] at h
  refine FnL.ofS (ts := []) Tryz.call190 Tryz.func190 rfl rfl (Nat.le_of_ble_eq_true rfl) (Nat.le_of_ble_eq_true rfl) (hall_of (.cons rfl .nil)) ?_
  refine sj ?_
  refine rn 1 [(0, .own 0 0 a0.length), (1, vi a1), (2, vi a2), (8, vi a1)] [some (.row 1 (List.map vt a0))] ?_
  obtain ⟨c1, h⟩ := chk_some h
  refine jv (vi (a1 + 1)) (cy (I0 9 (.bin .add false (.t 8) (.c (.p (.int .i64 1)))))) (r_add rfl rfl c1) rfl ?_
  refine jq 1 [(0, .own 0 0 a0.length), (1, vi a1), (2, vi a2), (6, vi (a1 + 1))] [some (.row 1 (List.map vt a0))] ?_
  refine TriE.block ?_
  refine TriE.loopN h (fun (t : Int × (List Str)) => match t with | (v6, v7) => St.mk [(0, .own 0 0 v7.length), (1, vi a1), (2, vi a2), (6, vi v6)] [some (.row 1 (List.map vt v7))]) rfl ?_
  clear h
  rintro back ⟨v6, v7⟩ h
  dsimp only [slices_insertionSortOrdered_string_L2] at h
  refine TriE.seq ?_
  refine sr [(0, .own 0 0 v7.length), (1, vi a1), (2, vi a2), (6, vi v6), (12, vb (decide (v6 < a2)))] [some (.row 1 (List.map vt v7))] ?_
  refine TriE.cond (b := decide (v6 < a2)) rfl (fun c2 => ?_) (fun c2 => ?_)
  · have h := cond_t h c2
    refine TriE.skip ?_
    refine TriE.seqK h (fun (v12 : (List Str)) => St.mk [(0, .own 0 0 v12.length), (1, vi a1), (2, vi a2), (6, vi v6)] [some (.row 1 (List.map vt v12))]) ?_ ?_
    · rintro v12 h
      refine TriE.regJ ?_
      refine rn 1 [(0, .own 0 0 v12.length), (1, vi a1), (2, vi a2), (13, vi v6)] [some (.row 1 (List.map vt v12))] ?_
      obtain ⟨c15, h⟩ := chk_some h
      refine jv (vi (v6 + 1)) (cy (I0 14 (.bin .add false (.t 13) (.c (.p (.int .i64 1)))))) (r_add rfl rfl c15) rfl ?_
      refine jq 1 [(0, .own 0 0 v12.length), (1, vi a1), (2, vi a2), (6, vi (v6 + 1))] [some (.row 1 (List.map vt v12))] ?_
      exact Vs.intro Sees.refl ⟨(v6 + 1, v12), rfl, h⟩
    intro k1 h
    refine TriE.block ?_
    refine sr [(0, .own 0 0 v7.length), (1, vi a1), (2, vi a2), (6, vi v6), (7, vi v6)] [some (.row 1 (List.map vt v7))] ?_
    refine TriE.block ?_
    refine TriE.loopN h (fun (t : Int × (List Str)) => match t with | (v9, v10) => St.mk [(0, .own 0 0 v10.length), (1, vi a1), (2, vi a2), (6, vi v6), (7, vi v9)] [some (.row 1 (List.map vt v10))]) rfl ?_
    clear h
    rintro back ⟨v9, v10⟩ h
    dsimp only [slices_insertionSortOrdered_string_L1] at h
    refine TriE.seq ?_
    refine TriE.seq ?_
    refine TriE.sees (Sees.less (fr' := [(0, .own 0 0 v10.length), (1, vi a1), (2, vi a2), (6, vi v6), (7, vi v9)]) (.cons rfl (.cons rfl (.cons rfl (.cons rfl (.cons rfl .nil)))))) ?_
    refine TriE.draw (by kernel_rfl) ?_
    refine RegD.run 4 [(19, vb (decide (a1 < v9))), (18, vb (decide (a1 < v9))), (17, vi a1), (16, vi v9), (0, .own 0 0 v10.length), (1, vi a1), (2, vi a2), (6, vi v6), (7, vi v9)] [some (.row 1 (List.map vt v10)), none, none, none, none] (by kernel_rfl) ?_
    refine RegD.op (OpD.valk (g := decide (a1 < v9)) (v := .own 0 0 v10.length) _ _ (cy (IG 20 (.mov (.t 0)) 19 true)) rfl (by kernel_rfl) (fun hg => (.cons rfl .nil))) ?_
    refine RegD.op (OpD.valk (g := decide (a1 < v9)) (v := vi v9) _ _ (cy (IG 21 (.mov (.t 7)) 19 true)) rfl (by kernel_rfl) (fun hg => (.cons rfl .nil))) ?_
    obtain ⟨c3, h⟩ := chk_some h
    refine RegD.op (OpD.valg (g := decide (a1 < v9)) (v := .ptr 0 v9.toNat 0) _ _ (cy (IG 22 (.iaddr 1 (.t 20) (.t 21)) 19 true)) rfl (fun hg => (ok_iaddr_o0 (j := v9.toNat) rfl rfl rfl (inB_to (gor c3 hg)) (inB_lt (gor c3 hg)))) (fun hg => (.cons hg (.cons hg .nil)))) ?_
    obtain ⟨c4, h⟩ := chk_some h
    refine RegD.op (OpD.valg (g := decide (a1 < v9)) (v := vt (ix v10 v9.toNat)) _ _ (cy (IG 23 (.load false 1 (.t 22)) 19 true)) rfl (fun hg => (ok_load_pm (l := v10) (e := vt) (v := vt (ix v10 v9.toNat)) rfl rfl (gor c4 hg) rfl)) (fun hg => (.cons hg .nil))) ?_
    refine RegD.op (OpD.valk (g := decide (a1 < v9)) (v := .own 0 0 v10.length) _ _ (cy (IG 24 (.mov (.t 0)) 19 true)) rfl (by kernel_rfl) (fun hg => (.cons rfl .nil))) ?_
    refine RegD.op (OpD.valk (g := decide (a1 < v9)) (v := vi v9) _ _ (cy (IG 25 (.mov (.t 7)) 19 true)) rfl (by kernel_rfl) (fun hg => (.cons rfl .nil))) ?_
    obtain ⟨c5, h⟩ := chk_some h
    refine RegD.op (OpD.valg (g := decide (a1 < v9)) (v := vi (v9 - 1)) _ _ (cy (IG 26 (.bin .sub false (.t 25) (.c (.p (.int .i64 1)))) 19 true)) rfl (fun hg => (r_sub rfl rfl (gor c5 hg))) (fun hg => (.cons hg (.cons rfl .nil)))) ?_
    obtain ⟨c6, h⟩ := chk_some h
    refine RegD.op (OpD.valg (g := decide (a1 < v9)) (v := .ptr 0 ((v9 - 1).toNat) 0) _ _ (cy (IG 27 (.iaddr 1 (.t 24) (.t 26)) 19 true)) rfl (fun hg => (ok_iaddr_o0 (j := (v9 - 1).toNat) rfl rfl rfl (inB_to (gor c6 hg)) (inB_lt (gor c6 hg)))) (fun hg => (.cons hg (.cons hg .nil)))) ?_
    obtain ⟨c7, h⟩ := chk_some h
    refine RegD.op (OpD.valg (g := decide (a1 < v9)) (v := vt (ix v10 ((v9 - 1).toNat))) _ _ (cy (IG 28 (.load false 1 (.t 27)) 19 true)) rfl (fun hg => (ok_load_pm (l := v10) (e := vt) (v := vt (ix v10 ((v9 - 1).toNat))) rfl rfl (gor c7 hg) rfl)) (fun hg => (.cons hg .nil))) ?_
    obtain ⟨y11, hy11, h⟩ := bind_some h
    refine RegD.op (OpD.callg (g := decide (a1 < v9)) (y' := vb (((!((ix v10 v9.toNat) == (ix v10 v9.toNat))) && (!(!((ix v10 ((v9 - 1).toNat)) == (ix v10 ((v9 - 1).toNat)))))) || (bLt (ix v10 v9.toNat) (ix v10 ((v9 - 1).toNat))))) (obx := []) _ _ (cy (IG 29 (.call 196 [(.t 23), (.t 28)]) 19 true)) rfl (fun hg => cmp_Less_string_ok n (ix v10 v9.toNat) (ix v10 ((v9 - 1).toNat)) y11 (gcall_some hy11 hg)) [] (fun hg => by kernel_rfl) (fun hg => (.cons rfl (.cons hg (.cons hg .nil)))) (by kernel_rfl) (by kernel_rfl) ObsRen.nil (by kernel_rfl) (by kernel_rfl) rfl) ?_
    refine RegD.op (OpD.and (cy (I0 30 (.pick (.t 19) (.t 29) (.c (.p (.bool false)))))) rfl rfl (by first | exact hokA1 | exact hokA0 | simp)) ?_
    refine RegD.done rfl (by kernel_rfl) (S' := ⟨[(0, .own 0 0 v10.length), (1, vi a1), (2, vi a2), (6, vi v6), (7, vi v9), (30, vb ((decide (a1 < v9)) && (((!((ix v10 v9.toNat) == (ix v10 v9.toNat))) && (!(!((ix v10 ((v9 - 1).toNat)) == (ix v10 ((v9 - 1).toNat)))))) || (bLt (ix v10 v9.toNat) (ix v10 ((v9 - 1).toNat))))))], [some (.row 1 (List.map vt v10))]⟩) (sc [0] (by decide) (by kernel_rfl) (obRen_row vt_frz rfl .nil) rfl rfl) ?_
    refine TriE.cond (b := (decide (a1 < v9)) && (((!((ix v10 v9.toNat) == (ix v10 v9.toNat))) && (!(!((ix v10 ((v9 - 1).toNat)) == (ix v10 ((v9 - 1).toNat)))))) || (bLt (ix v10 v9.toNat) (ix v10 ((v9 - 1).toNat))))) rfl (fun c8 => ?_) (fun c8 => ?_)
    · have h := cond_t h c8
      refine TriE.skip ?_
      refine TriE.seq ?_
      refine TriE.block ?_
      refine TriE.sees (Sees.less (fr' := [(0, .own 0 0 v10.length), (1, vi a1), (2, vi a2), (6, vi v6), (7, vi v9)]) (.cons rfl (.cons rfl (.cons rfl (.cons rfl (.cons rfl .nil)))))) ?_
      refine TriE.draw (by kernel_rfl) ?_
      refine RegD.run 4 [(36, vi v9), (35, .own 0 0 v10.length), (34, vi v9), (33, .own 0 0 v10.length), (0, .own 0 0 v10.length), (1, vi a1), (2, vi a2), (6, vi v6), (7, vi v9)] [some (.row 1 (List.map vt v10)), none, none, none, none] (by kernel_rfl) ?_
      obtain ⟨c9, h⟩ := chk_some h
      refine dv (vi (v9 - 1)) (cy (I0 37 (.bin .sub false (.t 36) (.c (.p (.int .i64 1)))))) (r_sub rfl rfl c9) rfl ?_
      refine RegD.run 2 [(39, vi v9), (38, .own 0 0 v10.length), (37, vi (v9 - 1)), (36, vi v9), (35, .own 0 0 v10.length), (34, vi v9), (33, .own 0 0 v10.length), (0, .own 0 0 v10.length), (1, vi a1), (2, vi a2), (6, vi v6), (7, vi v9)] [some (.row 1 (List.map vt v10)), none, none, none, none, none, none, none] (by kernel_rfl) ?_
      refine dv (vi (v9 - 1)) (cy (I0 40 (.bin .sub false (.t 39) (.c (.p (.int .i64 1)))))) (r_sub rfl rfl c9) rfl ?_
      obtain ⟨c10, h⟩ := chk_some h
      refine dv (.ptr 0 ((v9 - 1).toNat) 0) (cy (I0 41 (.iaddr 1 (.t 38) (.t 40)))) (ok_iaddr_o0 (j := (v9 - 1).toNat) rfl rfl rfl (inB_to c10) (inB_lt c10)) rfl ?_
      obtain ⟨c11, h⟩ := chk_some h
      refine dv (vt (ix v10 ((v9 - 1).toNat))) (cy (I0 42 (.load false 1 (.t 41)))) (ok_load_pm (l := v10) (e := vt) (v := vt (ix v10 ((v9 - 1).toNat))) rfl rfl c11 rfl) rfl ?_
      refine RegD.run 2 [(44, vi v9), (43, .own 0 0 v10.length), (42, vt (ix v10 ((v9 - 1).toNat))), (41, .ptr 0 ((v9 - 1).toNat) 0), (40, vi (v9 - 1)), (39, vi v9), (38, .own 0 0 v10.length), (37, vi (v9 - 1)), (36, vi v9), (35, .own 0 0 v10.length), (34, vi v9), (33, .own 0 0 v10.length), (0, .own 0 0 v10.length), (1, vi a1), (2, vi a2), (6, vi v6), (7, vi v9)] [some (.row 1 (List.map vt v10)), none, none, none, none, none, none, none, none, none, none, none, none] (by kernel_rfl) ?_
      obtain ⟨c12, h⟩ := chk_some h
      refine dv (.ptr 0 v9.toNat 0) (cy (I0 45 (.iaddr 1 (.t 43) (.t 44)))) (ok_iaddr_o0 (j := v9.toNat) rfl rfl rfl (inB_to c12) (inB_lt c12)) rfl ?_
      obtain ⟨c13, h⟩ := chk_some h
      refine dv (vt (ix v10 v9.toNat)) (cy (I0 46 (.load false 1 (.t 45)))) (ok_load_pm (l := v10) (e := vt) (v := vt (ix v10 v9.toNat)) rfl rfl c13 rfl) rfl ?_
      refine dv (.ptr 0 v9.toNat 0) (cy (I0 47 (.iaddr 1 (.t 33) (.t 34)))) (ok_iaddr_o0 (j := v9.toNat) rfl rfl rfl (inB_to c12) (inB_lt c12)) rfl ?_
      refine de (.undef) [some (.row 1 (List.map vt (List.set v10 v9.toNat (ix v10 ((v9 - 1).toNat))))), none, none, none, none, none, none, none, none, none, none, none, none, none, none, none, none] (cy (IN (.store 1 (.t 47) (.t 42)))) (ok_store_m (l := v10) (e := vt) (x' := (ix v10 ((v9 - 1).toNat))) (u := vt (ix v10 ((v9 - 1).toNat))) rfl rfl rfl c13 rfl rfl) rfl rfl rfl ?_
      refine dv (.ptr 0 ((v9 - 1).toNat) 0) (cy (I0 48 (.iaddr 1 (.t 35) (.t 37)))) (ok_iaddr_o0 (j := (v9 - 1).toNat) rfl rfl rfl (inB_to c10) (inB_lt c10)) rfl ?_
      obtain ⟨c14, h⟩ := chk_some h
      refine de (.undef) [some (.row 1 (List.map vt (List.set (List.set v10 v9.toNat (ix v10 ((v9 - 1).toNat))) ((v9 - 1).toNat) (ix v10 v9.toNat)))), none, none, none, none, none, none, none, none, none, none, none, none, none, none, none, none, none, none] (cy (IN (.store 1 (.t 48) (.t 46)))) (ok_store_m (l := (List.set v10 v9.toNat (ix v10 ((v9 - 1).toNat)))) (e := vt) (x' := (ix v10 v9.toNat)) (u := vt (ix v10 v9.toNat)) rfl rfl rfl c14 rfl rfl) rfl rfl rfl ?_
      refine RegD.done rfl (by kernel_rfl) (S' := ⟨[(0, .own 0 0 v10.length), (1, vi a1), (2, vi a2), (6, vi v6), (7, vi v9)], [some (.row 1 (List.map vt (List.set (List.set v10 v9.toNat (ix v10 ((v9 - 1).toNat))) ((v9 - 1).toNat) (ix v10 v9.toNat))))]⟩) (sc [0] (by decide) (by kernel_rfl) (obRen_row vt_frz rfl .nil) rfl rfl) ?_
      refine TriE.regJ ?_
      refine rn 1 [(0, .own 0 0 v10.length), (1, vi a1), (2, vi a2), (6, vi v6), (31, vi v9)] [some (.row 1 (List.map vt (List.set (List.set v10 v9.toNat (ix v10 ((v9 - 1).toNat))) ((v9 - 1).toNat) (ix v10 v9.toNat))))] ?_
      refine jv (vi (v9 - 1)) (cy (I0 32 (.bin .sub false (.t 31) (.c (.p (.int .i64 1)))))) (r_sub rfl rfl c9) rfl ?_
      refine jq 1 [(0, .own 0 0 v10.length), (1, vi a1), (2, vi a2), (6, vi v6), (7, vi (v9 - 1))] [some (.row 1 (List.map vt (List.set (List.set v10 v9.toNat (ix v10 ((v9 - 1).toNat))) ((v9 - 1).toNat) (ix v10 v9.toNat))))] ?_
      exact Vs.intro (Sees.less (.cons (by simp only [List.length_set]; rfl) (.cons rfl (.cons rfl (.cons rfl (.cons rfl .nil)))))) ⟨(v9 - 1, (List.set (List.set v10 v9.toNat (ix v10 ((v9 - 1).toNat))) ((v9 - 1).toNat) (ix v10 v9.toNat))), rfl, h⟩
    have h := cond_f h c8
    refine TriE.exit ?_
    exact Vs.intro sy ⟨v10, rfl, h⟩
  have h := cond_f h c2
  refine TriE.exit ?_
  have h := Option.some.inj h
  subst h
  exact DoneS.normal (S' := ⟨[], [some (.row 1 (List.map vt v7))]⟩) sy rfl rfl
theorem slices_pdqsortOrdered_string_ok (n : Nat) (a0 : List Str) (a1 : Int) (a2 : Int) (a3 : Int) (r : (List Str)) (h : slices_pdqsortOrdered_string n a0 a1 a2 a3 = some r) : FnL Tryz.prog 165 [.own 0 0 a0.length, vi a1, vi a2, vi a3] [some (.row 1 (List.map vt a0))] (.tup []) [some (.row 1 (List.map vt r))] := by
  dsimp only [slices_pdqsortOrdered_string] at h
  refine FnL.ofS (ts := []) Tryz.call165 Tryz.func165 rfl rfl (Nat.le_of_ble_eq_true rfl) (Nat.le_of_ble_eq_true rfl) (hall_of (.cons rfl .nil)) ?_
  refine sr [(0, .own 0 0 a0.length), (1, vi a1), (2, vi a2), (3, vi a3), (8, vb true)] [some (.row 1 (List.map vt a0))] ?_
  refine sr [(0, .own 0 0 a0.length), (1, vi a1), (2, vi a2), (3, vi a3), (8, vb true), (9, vb true)] [some (.row 1 (List.map vt a0))] ?_
  refine TriE.block ?_
  refine TriE.loopN h (fun (_ : Unit) => St.mk [(0, .own 0 0 a0.length), (1, vi a1), (2, vi a2), (3, vi a3), (8, vb true), (9, vb true)] [some (.row 1 (List.map vt a0))]) rfl ?_
  clear h
  rintro back ⟨⟩ h
  dsimp only [slices_pdqsortOrdered_string_L1] at h
  refine TriE.block ?_
  refine sj ?_
  refine rn 2 [(0, .own 0 0 a0.length), (1, vi a1), (2, vi a2), (3, vi a3), (8, vb true), (9, vb true), (19, vi a2), (20, vi a1)] [some (.row 1 (List.map vt a0))] ?_
  obtain ⟨c1, h⟩ := chk_some h
  refine jv (vi (a2 - a1)) (cy (I0 21 (.bin .sub false (.t 19) (.t 20)))) (r_sub rfl rfl c1) rfl ?_
  refine jq 1 [(0, .own 0 0 a0.length), (1, vi a1), (2, vi a2), (3, vi a3), (8, vb true), (9, vb true), (10, vi (a2 - a1))] [some (.row 1 (List.map vt a0))] ?_
  refine TriE.seq ?_
  refine sr [(0, .own 0 0 a0.length), (1, vi a1), (2, vi a2), (3, vi a3), (8, vb true), (9, vb true), (10, vi (a2 - a1)), (23, vb (decide ((a2 - a1) ≤ (12 : Int))))] [some (.row 1 (List.map vt a0))] ?_
  refine TriE.cond (b := decide ((a2 - a1) ≤ (12 : Int))) rfl (fun c2 => ?_) (fun c2 => ?_)
  · have h := cond_t h c2
    refine sj ?_
    refine rn 3 [(24, .own 0 0 a0.length), (25, vi a1), (26, vi a2)] [some (.row 1 (List.map vt a0))] ?_
    obtain ⟨y1, hy1, h⟩ := bind_some h
    refine RegJ.op (Op1.call (y' := .tup []) (obx := [some (.row 1 (List.map vt a0))]) (oby := [some (.row 1 (List.map vt y1))]) (ob2 := [some (.row 1 (List.map vt y1))]) _ _ (cy (I0 27 (.call 190 [(.t 24), (.t 25), (.t 26)]))) rfl (slices_insertionSortOrdered_string_ok n a0 a1 a2 y1 hy1) [0] (by kernel_rfl) (.cons rfl (.cons rfl (.cons rfl (.cons rfl .nil)))) (by kernel_rfl) (by kernel_rfl) (.same (row_ren vt_frz _ _ _) .nil) (by kernel_rfl) (.same (row_ren vt_frz _ _ _) .nil) (by kernel_rfl)) ?_
    obtain ⟨c3, h⟩ := chk_some h
    refine RegJ.sees (S' := ⟨[(24, .own 0 0 y1.length), (25, vi a1), (26, vi a2), (27, .tup [])], [some (.row 1 (List.map vt y1))]⟩) (Sees.cov (Cov.mk2 (rs := [0]) (by decide) rfl rfl (.cons (.inl (by rw [show a0.length = y1.length from of_decide_eq_true c3]; rfl)) (.cons (.inl rfl) (.cons (.inl rfl) (.cons (.inl rfl) .nil)))) (obRen_row vt_frz rfl .nil))) ?_
    refine jp [] ?_
    refine TriE.ret ?_
    have h := Option.some.inj h
    subst h
    exact DoneS.ret (S' := ⟨[], [some (.row 1 (List.map vt y1))]⟩) Sees.refl rfl rfl
  have h := cond_f h c2
  refine TriE.skip ?_
  refine TriE.seq ?_
  refine sr [(0, .own 0 0 a0.length), (1, vi a1), (2, vi a2), (3, vi a3), (8, vb true), (9, vb true), (10, vi (a2 - a1)), (29, vb (a3 == (0 : Int)))] [some (.row 1 (List.map vt a0))] ?_
  refine TriE.cond (b := (a3 == (0 : Int))) rfl (fun c4 => ?_) (fun c4 => ?_)
  · have h := cond_t h c4
    refine sj ?_
    refine rn 3 [(30, .own 0 0 a0.length), (31, vi a1), (32, vi a2)] [some (.row 1 (List.map vt a0))] ?_
    cases h
  have h := cond_f h c4
  refine TriE.skip ?_
  refine TriE.seq ?_
  refine sr [(0, .own 0 0 a0.length), (1, vi a1), (2, vi a2), (3, vi a3), (8, vb true), (9, vb true), (10, vi (a2 - a1)), (35, vb false)] [some (.row 1 (List.map vt a0))] ?_
  refine TriE.cond (b := false) rfl (fun c5 => ?_) (fun c5 => ?_)
  · cases c5
  refine TriE.skip ?_
  refine sj ?_
  refine rn 3 [(0, .own 0 0 a0.length), (1, vi a1), (2, vi a2), (3, vi a3), (8, vb true), (9, vb true), (10, vi (a2 - a1)), (43, .own 0 0 a0.length), (44, vi a1), (45, vi a2)] [some (.row 1 (List.map vt a0))] ?_
  cases h
theorem slices_Sort_string_ok (n : Nat) (a0 : List Str) (r : (List Str)) (h : slices_Sort_string n a0 = some r) : FnL Tryz.prog 103 [.own 0 0 a0.length] [some (.row 1 (List.map vt a0))] (.tup []) [some (.row 1 (List.map vt r))] := by
  dsimp only [slices_Sort_string] at h
  refine FnL.ofS (ts := []) Tryz.call103 Tryz.func103 rfl rfl (Nat.le_of_ble_eq_true rfl) (Nat.le_of_ble_eq_true rfl) (hall_of (.cons rfl .nil)) ?_
  refine sr [(0, .own 0 0 a0.length), (2, vi (a0.length : Int))] [some (.row 1 (List.map vt a0))] ?_
  refine TriE.regJ ?_
  refine rn 4 [(5, .own 0 0 a0.length), (6, vi (a0.length : Int)), (8, vk .u64 (IntKind.u64.wrap (a0.length : Int)))] [some (.row 1 (List.map vt a0))] ?_
  obtain ⟨y1, hy1, h⟩ := bind_some h
  refine RegJ.op (Op1.call (y' := vi y1) (obx := []) (oby := []) (ob2 := [some (.row 1 (List.map vt a0))]) _ _ (cy (I0 9 (.call 166 [(.t 8)]))) rfl (math_bits_Len_ok n (IntKind.u64.wrap (a0.length : Int)) y1 hy1) [] (by kernel_rfl) (.cons rfl (.cons rfl .nil)) (by kernel_rfl) (by kernel_rfl) ObsRen.nil (by kernel_rfl) ObsRen.nil (by kernel_rfl)) ?_
  obtain ⟨y2, hy2, h⟩ := bind_some h
  refine RegJ.op (Op1.call (y' := .tup []) (obx := [some (.row 1 (List.map vt a0))]) (oby := [some (.row 1 (List.map vt y2))]) (ob2 := [some (.row 1 (List.map vt y2))]) _ _ (cy (I0 10 (.call 165 [(.t 5), (.c (.p (.int .i64 0))), (.t 6), (.t 9)]))) rfl (slices_pdqsortOrdered_string_ok n a0 0 (a0.length : Int) y1 y2 hy2) [0] (by kernel_rfl) (.cons rfl (.cons rfl (.cons rfl (.cons rfl (.cons rfl .nil))))) (by kernel_rfl) (by kernel_rfl) (.same (row_ren vt_frz _ _ _) .nil) (by kernel_rfl) (.same (row_ren vt_frz _ _ _) .nil) (by kernel_rfl)) ?_
  obtain ⟨c1, h⟩ := chk_some h
  refine RegJ.sees (S' := ⟨[(5, .own 0 0 y2.length), (6, vi (a0.length : Int)), (8, vk .u64 (IntKind.u64.wrap (a0.length : Int))), (9, vi y1), (10, .tup [])], [some (.row 1 (List.map vt y2))]⟩) (Sees.cov (Cov.mk2 (rs := [0]) (by decide) rfl rfl (.cons (.inl (by rw [show a0.length = y2.length from of_decide_eq_true c1]; rfl)) (.cons (.inl rfl) (.cons (.inl rfl) (.cons (.inl rfl) (.cons (.inl rfl) .nil))))) (obRen_row vt_frz rfl .nil))) ?_
  refine jp [] ?_
  have h := Option.some.inj h
  subst h
  exact DoneS.normal (S' := ⟨[], [some (.row 1 (List.map vt y2))]⟩) Sees.refl rfl rfl
theorem restore_list_names_ok (n : Nat) (a0 : List Task) (a1 : Int) (r : (List Str)) (h : restore_list_names n a0 a1 = some r) : FnL Tryz.prog 135 [eS 6 eTask a0, vk .u64 a1] [] (eS 1 vt r) [] := by
  dsimp only [restore_list_names] at h
  refine FnL.ofS (ts := [4]) Tryz.call135 Tryz.func135 rfl rfl (Nat.le_of_ble_eq_true rfl) (Nat.le_of_ble_eq_true rfl) (fun j h => absurd h (Nat.not_lt_zero j)) ?_
  refine sr [(0, eS 6 eTask a0), (1, vk .u64 a1)] [] ?_
  refine sr [(0, eS 6 eTask a0), (1, vk .u64 a1), (5, .emp)] [] ?_
  refine TriE.seqK h (fun (v5 : (List Str)) => St.mk [(5, .own 0 0 v5.length)] [some (.row 1 (List.map vt v5))]) ?_ ?_
  · rintro v5 h
    refine sj ?_
    refine rn 1 [(5, .own 0 0 v5.length), (26, .own 0 0 v5.length)] [some (.row 1 (List.map vt v5))] ?_
    obtain ⟨y6, hy6, h⟩ := bind_some h
    refine RegJ.op (Op1.call (y' := .tup []) (obx := [some (.row 1 (List.map vt v5))]) (oby := [some (.row 1 (List.map vt y6))]) (ob2 := [some (.row 1 (List.map vt y6))]) _ _ (cy (I0 27 (.call 103 [(.t 26)]))) rfl (slices_Sort_string_ok n v5 y6 hy6) [0] (by kernel_rfl) (.cons rfl (.cons rfl .nil)) (by kernel_rfl) (by kernel_rfl) (.same (row_ren vt_frz _ _ _) .nil) (by kernel_rfl) (.same (row_ren vt_frz _ _ _) .nil) (by kernel_rfl)) ?_
    obtain ⟨c6, h⟩ := chk_some h
    refine RegJ.sees (S' := ⟨[(5, .own 0 0 y6.length), (26, .own 0 0 y6.length), (27, .tup [])], [some (.row 1 (List.map vt y6))]⟩) (Sees.cov (Cov.mk2 (rs := [0]) (by decide) rfl rfl (.cons (.inl (by rw [show v5.length = y6.length from of_decide_eq_true c6]; rfl)) (.cons (.inl (by rw [show v5.length = y6.length from of_decide_eq_true c6]; rfl)) (.cons (.inl rfl) .nil))) (obRen_row vt_frz rfl .nil))) ?_
    refine jp [(5, .own 0 0 y6.length)] ?_
    refine sr [(4, .own 0 0 y6.length)] [some (.row 1 (List.map vt y6))] ?_
    refine TriE.ret ?_
    have h := Option.some.inj h
    subst h
    exact DoneS.ret (S' := ⟨[(4, eS 1 vt y6)], []⟩) (Sees.trans (Sees.freeze 0 (fr' := [(4, eS 1 vt y6)]) (ob' := [none]) rfl (frz_row vt_frzE _) (.cons (frz_full rfl) .nil) rfl) (sc [] (by decide) (by kernel_rfl) ObRen.nil rfl rfl)) rfl rfl
  intro k2 h
  refine sj ?_
  refine rn 1 [(1, vk .u64 a1), (5, .emp), (8, eS 6 eTask a0)] [] ?_
  refine jv (vi (a0.length : Int)) (cy (I0 9 (.len 0 (.t 8)))) (ok_len_m rfl) rfl ?_
  refine jq 1 [(1, vk .u64 a1), (5, .emp), (8, eS 6 eTask a0), (9, vi (a0.length : Int)), (10, vi 0)] [] ?_
  refine TriE.block ?_
  refine TriE.sees (S' := ⟨[(1, vk .u64 a1), (5, .own 0 0 ([] : List Str).length), (8, eS 6 eTask a0), (9, vi (a0.length : Int)), (10, vi 0)], [some (.row 1 (List.map vt ([] : List Str)))]⟩) (Sees.trans (Sees.co (fr' := [(1, vk .u64 a1), (5, .own 0 0 0), (8, eS 6 eTask a0), (9, vi (a0.length : Int)), (10, vi 0)]) (ob' := []) (.cons .same (.cons .own (.cons .same (.cons .same (.cons .same .nil))))) ObCo.nil 1) sy) ?_
  refine TriE.loopN h (fun (t : (List Str) × Nat) => match t with | (v2, v3) => St.mk [(1, vk .u64 a1), (5, .own 0 0 v2.length), (8, eS 6 eTask a0), (9, vi (a0.length : Int)), (10, vi v3)] [some (.row 1 (List.map vt v2))]) rfl ?_
  clear h
  rintro back ⟨v2, v3⟩ h
  dsimp only [restore_list_names_L1] at h
  refine sj ?_
  refine jv (vb (decide (v3 < a0.length))) (cy (I0 11 (.bin .lss false (.t 10) (.t 9)))) (n_lss (i := v3) (j := a0.length) rfl rfl) rfl ?_
  refine jp [(1, vk .u64 a1), (5, .own 0 0 v2.length), (8, eS 6 eTask a0), (9, vi (a0.length : Int)), (10, vi v3), (11, vb (decide (v3 < a0.length)))] ?_
  refine TriE.seq ?_
  refine TriE.cond (b := decide (v3 < a0.length)) rfl (fun c1 => ?_) (fun c1 => ?_)
  · have h := cond_t h c1
    refine TriE.skip ?_
    refine TriE.seqK h (fun (v4 : (List Str)) => St.mk [(1, vk .u64 a1), (8, eS 6 eTask a0), (9, vi (a0.length : Int)), (10, vi v3), (5, .own 0 0 v4.length)] [some (.row 1 (List.map vt v4))]) ?_ ?_
    · rintro v4 h
      refine TriE.regJ ?_
      obtain ⟨c5, h⟩ := chk_some h
      refine jv (vi ((v3 + 1 : Nat) : Int)) (cy (I0 25 (.bin .add false (.t 10) (.c (.p (.int .i64 1)))))) (r_addn (i := v3) (j := 1) rfl rfl c5) rfl ?_
      refine jq 1 [(1, vk .u64 a1), (8, eS 6 eTask a0), (9, vi (a0.length : Int)), (5, .own 0 0 v4.length), (10, vi ((v3 + 1 : Nat) : Int))] [some (.row 1 (List.map vt v4))] ?_
      exact Vs.intro sy ⟨(v4, v3 + 1), rfl, h⟩
    intro k1 h
    refine TriE.block ?_
    refine sj ?_
    refine rn 1 [(1, vk .u64 a1), (5, .own 0 0 v2.length), (8, eS 6 eTask a0), (9, vi (a0.length : Int)), (10, vi v3), (12, vi v3)] [some (.row 1 (List.map vt v2))] ?_
    refine jv (.fptr 6 (List.map eTask a0) v3 0) (cy (I0 13 (.iaddr 6 (.t 8) (.t 10)))) (ok_iaddr_m (j := v3) rfl rfl rfl c1) rfl ?_
    refine jv (.agg [vt ((ix a0 v3).Name), vi ((ix a0 v3).Cents), vi ((ix a0 v3).Hours), eS 1 vt ((ix a0 v3).Needs), eS 1 (eS 1 vt) ((ix a0 v3).OneOf), eS 2 ePartCount ((ix a0 v3).Parts)]) (cy (I0 14 (.load true 6 (.t 13)))) (ok_load_fm (v := .agg [vt ((ix a0 v3).Name), vi ((ix a0 v3).Cents), vi ((ix a0 v3).Hours), eS 1 vt ((ix a0 v3).Needs), eS 1 (eS 1 vt) ((ix a0 v3).OneOf), eS 2 ePartCount ((ix a0 v3).Parts)]) rfl c1 rfl) rfl ?_
    refine jq 3 [(1, vk .u64 a1), (5, .own 0 0 v2.length), (8, eS 6 eTask a0), (9, vi (a0.length : Int)), (10, vi v3), (7, .ptr 1 0 0), (6, vi v3)] [some (.row 1 (List.map vt v2)), some (.row 6 [.agg [vt ((ix a0 v3).Name), vi ((ix a0 v3).Cents), vi ((ix a0 v3).Hours), eS 1 vt ((ix a0 v3).Needs), eS 1 (eS 1 vt) ((ix a0 v3).OneOf), eS 2 ePartCount ((ix a0 v3).Parts)]])] ?_
    refine sj ?_
    refine rn 2 [(1, vk .u64 a1), (5, .own 0 0 v2.length), (8, eS 6 eTask a0), (9, vi (a0.length : Int)), (10, vi v3), (7, .ptr 1 0 0), (15, vk .u64 a1), (16, vi v3)] [some (.row 1 (List.map vt v2)), some (.row 6 [.agg [vt ((ix a0 v3).Name), vi ((ix a0 v3).Cents), vi ((ix a0 v3).Hours), eS 1 vt ((ix a0 v3).Needs), eS 1 (eS 1 vt) ((ix a0 v3).OneOf), eS 2 ePartCount ((ix a0 v3).Parts)]])] ?_
    obtain ⟨c2, h⟩ := chk_some h
    refine jv (vk .u64 (Int.fdiv a1 (2 ^ (min (v3 : Int).toNat 64)))) (cy (I0 17 (.bin .shr false (.t 15) (.t 16)))) (r_shr rfl rfl c2) rfl ?_
    refine jq 2 [(1, vk .u64 a1), (5, .own 0 0 v2.length), (8, eS 6 eTask a0), (9, vi (a0.length : Int)), (10, vi v3), (7, .ptr 1 0 0), (19, vb ((iAnd .u64 (Int.fdiv a1 (2 ^ (min (v3 : Int).toNat 64))) 1) != (0 : Int)))] [some (.row 1 (List.map vt v2)), some (.row 6 [.agg [vt ((ix a0 v3).Name), vi ((ix a0 v3).Cents), vi ((ix a0 v3).Hours), eS 1 vt ((ix a0 v3).Needs), eS 1 (eS 1 vt) ((ix a0 v3).OneOf), eS 2 ePartCount ((ix a0 v3).Parts)]])] ?_
    refine TriE.cond (b := ((iAnd .u64 (Int.fdiv a1 (2 ^ (min (v3 : Int).toNat 64))) 1) != (0 : Int))) rfl (fun c3 => ?_) (fun c3 => ?_)
    · have h := cond_t h c3
      refine TriE.regJ ?_
      refine rn 4 [(1, vk .u64 a1), (8, eS 6 eTask a0), (9, vi (a0.length : Int)), (10, vi v3), (20, .own 0 0 v2.length), (23, .own 2 0 1)] [some (.row 1 (List.map vt v2)), some (.row 6 [.agg [vt ((ix a0 v3).Name), vi ((ix a0 v3).Cents), vi ((ix a0 v3).Hours), eS 1 vt ((ix a0 v3).Needs), eS 1 (eS 1 vt) ((ix a0 v3).OneOf), eS 2 ePartCount ((ix a0 v3).Parts)]]), some (.row 1 [vt ((ix a0 v3).Name)])] ?_
      obtain ⟨c4, h⟩ := chk_some h
      refine je (.own 3 0 ((v2 ++ ([(ix a0 v3).Name] : List Str)).length)) [none, some (.row 6 [.agg [vt ((ix a0 v3).Name), vi ((ix a0 v3).Cents), vi ((ix a0 v3).Hours), eS 1 vt ((ix a0 v3).Needs), eS 1 (eS 1 vt) ((ix a0 v3).OneOf), eS 2 ePartCount ((ix a0 v3).Parts)]]), some (.row 1 [vt ((ix a0 v3).Name)]), some (.row 1 (List.map vt (v2 ++ ([(ix a0 v3).Name] : List Str))))] (cy (I0 24 (.app 1 16 (.t 20) (.t 23)))) (ok_app_own (l := v2) (l2 := ([(ix a0 v3).Name] : List Str)) (e := vt) (u := .own 2 0 1) rfl rfl rfl rfl rfl c4) rfl rfl rfl ?_
      refine jq 1 [(1, vk .u64 a1), (8, eS 6 eTask a0), (9, vi (a0.length : Int)), (10, vi v3), (5, .own 3 0 ((v2 ++ ([(ix a0 v3).Name] : List Str)).length))] [none, some (.row 6 [.agg [vt ((ix a0 v3).Name), vi ((ix a0 v3).Cents), vi ((ix a0 v3).Hours), eS 1 vt ((ix a0 v3).Needs), eS 1 (eS 1 vt) ((ix a0 v3).OneOf), eS 2 ePartCount ((ix a0 v3).Parts)]]), some (.row 1 [vt ((ix a0 v3).Name)]), some (.row 1 (List.map vt (v2 ++ ([(ix a0 v3).Name] : List Str))))] ?_
      exact Vs.intro (sc [3] (by decide) (by kernel_rfl) (obRen_row vt_frz rfl .nil) rfl rfl) ⟨(v2 ++ ([(ix a0 v3).Name] : List Str)), rfl, h⟩
    have h := cond_f h c3
    refine TriE.skip ?_
    exact Vs.intro (sc [0] (by decide) (by kernel_rfl) (obRen_row vt_frz rfl .nil) rfl rfl) ⟨v2, rfl, h⟩
  have h := cond_f h c1
  refine TriE.exit ?_
  exact Vs.intro sy ⟨v2, rfl, h⟩
theorem cmp_isNaN_int_ok (n : Nat) (a0 : Int) (r : Unit) (h : cmp_isNaN_int n a0 = some r) : FnL Tryz.prog 183 [vi a0] [] (vb (a0 != a0)) [] := by
  dsimp only [cmp_isNaN_int] at h
  refine FnL.ofS (ts := [2]) Tryz.call183 Tryz.func183 rfl rfl (Nat.le_of_ble_eq_true rfl) (Nat.le_of_ble_eq_true rfl) (fun j h => absurd h (Nat.not_lt_zero j)) ?_
  refine sr [(0, vi a0)] [] ?_
  refine sr [(2, vb (a0 != a0))] [] ?_
  refine TriE.ret ?_
  have h := Option.some.inj h
  subst h
  exact DoneS.ret (S' := ⟨[(2, vb (a0 != a0))], []⟩) Sees.refl rfl rfl
theorem cmp_Compare_int_ok (n : Nat) (a0 : Int) (a1 : Int) (r : Int) (h : cmp_Compare_int n a0 a1 = some r) : FnL Tryz.prog 137 [vi a0, vi a1] [] (vi r) [] := by
  dsimp only [cmp_Compare_int] at h
  refine FnL.ofS (ts := [4]) Tryz.call137 Tryz.func137 rfl rfl (Nat.le_of_ble_eq_true rfl) (Nat.le_of_ble_eq_true rfl) (fun j h => absurd h (Nat.not_lt_zero j)) ?_
  refine sr [(0, vi a0), (1, vi a1)] [] ?_
  refine sj ?_
  refine rn 1 [(0, vi a0), (1, vi a1), (7, vi a0)] [] ?_
  obtain ⟨y1, hy1, h⟩ := bind_some h
  refine RegJ.op (Op1.call (y' := vb (a0 != a0)) (obx := []) (oby := []) (ob2 := []) _ _ (cy (I0 8 (.call 183 [(.t 7)]))) rfl (cmp_isNaN_int_ok n a0 y1 hy1) [] (by kernel_rfl) (.cons rfl (.cons rfl .nil)) (by kernel_rfl) (by kernel_rfl) ObsRen.nil (by kernel_rfl) ObsRen.nil (by kernel_rfl)) ?_
  refine jq 1 [(0, vi a0), (1, vi a1), (5, vb (a0 != a0))] [] ?_
  refine sj ?_
  refine rn 1 [(0, vi a0), (1, vi a1), (5, vb (a0 != a0)), (9, vi a1)] [] ?_
  obtain ⟨y2, hy2, h⟩ := bind_some h
  refine RegJ.op (Op1.call (y' := vb (a1 != a1)) (obx := []) (oby := []) (ob2 := []) _ _ (cy (I0 10 (.call 183 [(.t 9)]))) rfl (cmp_isNaN_int_ok n a1 y2 hy2) [] (by kernel_rfl) (.cons rfl (.cons rfl .nil)) (by kernel_rfl) (by kernel_rfl) ObsRen.nil (by kernel_rfl) ObsRen.nil (by kernel_rfl)) ?_
  refine jq 1 [(0, vi a0), (1, vi a1), (5, vb (a0 != a0)), (6, vb (a1 != a1))] [] ?_
  refine TriE.seq ?_
  refine sr [(0, vi a0), (1, vi a1), (6, vb (a1 != a1)), (11, vb (a0 != a0))] [] ?_
  refine TriE.cond (b := (a0 != a0)) rfl (fun c1 => ?_) (fun c1 => ?_)
  · have h := cond_t h c1
    refine TriE.seq ?_
    refine sr [(12, vb (a1 != a1))] [] ?_
    refine TriE.cond (b := (a1 != a1)) rfl (fun c2 => ?_) (fun c2 => ?_)
    · have h := cond_t h c2
      refine sr [(4, vi 0)] [] ?_
      refine TriE.ret ?_
      have h := Option.some.inj h
      subst h
      exact DoneS.ret (S' := ⟨[(4, vi 0)], []⟩) Sees.refl rfl rfl
    have h := cond_f h c2
    refine TriE.skip ?_
    refine sr [(4, vi (-1))] [] ?_
    refine TriE.ret ?_
    have h := Option.some.inj h
    subst h
    exact DoneS.ret (S' := ⟨[(4, vi (-1))], []⟩) Sees.refl rfl rfl
  have h := cond_f h c1
  refine TriE.skip ?_
  refine TriE.seq ?_
  refine sr [(0, vi a0), (1, vi a1), (13, vb (a1 != a1))] [] ?_
  refine TriE.cond (b := (a1 != a1)) rfl (fun c3 => ?_) (fun c3 => ?_)
  · have h := cond_t h c3
    refine sr [(4, vi 1)] [] ?_
    refine TriE.ret ?_
    have h := Option.some.inj h
    subst h
    exact DoneS.ret (S' := ⟨[(4, vi 1)], []⟩) Sees.refl rfl rfl
  have h := cond_f h c3
  refine TriE.skip ?_
  refine TriE.seq ?_
  refine sr [(0, vi a0), (1, vi a1), (16, vb (decide (a0 < a1)))] [] ?_
  refine TriE.cond (b := decide (a0 < a1)) rfl (fun c4 => ?_) (fun c4 => ?_)
  · have h := cond_t h c4
    refine sr [(4, vi (-1))] [] ?_
    refine TriE.ret ?_
    have h := Option.some.inj h
    subst h
    exact DoneS.ret (S' := ⟨[(4, vi (-1))], []⟩) Sees.refl rfl rfl
  have h := cond_f h c4
  refine TriE.skip ?_
  refine TriE.seq ?_
  refine sr [(19, vb (decide (a1 < a0)))] [] ?_
  refine TriE.cond (b := decide (a1 < a0)) rfl (fun c5 => ?_) (fun c5 => ?_)
  · have h := cond_t h c5
    refine sr [(4, vi 1)] [] ?_
    refine TriE.ret ?_
    have h := Option.some.inj h
    subst h
    exact DoneS.ret (S' := ⟨[(4, vi 1)], []⟩) Sees.refl rfl rfl
  have h := cond_f h c5
  refine TriE.skip ?_
  refine sr [(4, vi 0)] [] ?_
  refine TriE.ret ?_
  have h := Option.some.inj h
  subst h
  exact DoneS.ret (S' := ⟨[(4, vi 0)], []⟩) Sees.refl rfl rfl
end Go.Proofs.YtcdcpambkdlhjaaGreat.As
