/- The law RestoreSplits returns true for every input, and each argument reads behind the call as it read before: no condition. -/
import Derived.Test.YtcdcpambkdlhjaaWalk1
import Derived.Test.YtcdcpambkdlhjaaRows
namespace Go.Proofs.Ytcdcpambkdlhjaa.As
open Go Go.Proofs Go.Proofs.Ytcdcpambkdlhjaa Go.ChangeShapes Go.WideShapes Go.ChangeAt Go.RowKit
theorem fnl (a0 : Int) (a1 : List (Int))  : FnL Try.prog 3 [vi a0, (eS 1 vi) a1] [] (vb true) [] :=
  agraffelaw08_RestoreSplits_ok _ a0 a1 true (pure_RestoreSplits a0 a1 )
theorem own : ownKnob Try.prog.godebug = Option.none := by kernel_rfl
theorem laidOut : laidOutB Try.prog = true := by kernel_rfl
theorem reads : ∀ t ∈ Try.f3.params.toList, Try.prog.readableRec t = true ∧ t < Try.prog.types.size := by
  rw [Try.params3]
  intro t ht
  simp only [List.mem_cons, List.not_mem_nil, or_false] at ht
  rcases ht with rfl | rfl <;> exact ⟨by kernel_rfl, by decide +kernel⟩
set_option maxRecDepth 100000 in
theorem lifted (os : Os) (started : os.Started) (H : Type) (enc : TypeId × Value → H) :
    ReturnsInHanded {} Try.checked os 3 .any (Rows.restoreSplitsSpec.pre6 enc Try.prog Try.f3 Rows.restoreSplitsRow.domain false) (Rows.restoreSplitsSpec.post enc Try.prog Try.f3 false true false false) := by
  refine returnsInHanded_of_change (C := Try.checked) own started (by kernel_rfl) Try.func3
    (ChangeSpec.witness6 (enc := enc) (C := Try.checked) false ⟨#[], #[.int .i64 0, .slice none 0 0], []⟩ 8 (by kernel_rfl) (by kernel_rfl) (by kernel_rfl) (by kernel_rfl)) ?_
  intro W base args ds gs before hval0 hW hcnd _
  have hW' := hW
  obtain ⟨p, q, hA0, hV, rfl, hfz, hnd⟩ := hW
  have hA : DataW.TrodAll enc Try.prog W 0 (fun _ => true) true Try.f3.params.toList args.toList ds p := hA0
  have hA1 := hA
  have hval : ∀ (j : Nat) t v, Try.f3.params[j]? = some t → args[j]? = some v → Value.okWide Try.prog W .any base t v := hval0
  rw [Try.params3] at hval
  rw [Try.params3] at hA1
  obtain ⟨v0, v1, d0, d1, p0, p1, rfl, rfl, rfl, r0, r1⟩ := trodAll_two hA1
  obtain ⟨rfl, rfl⟩ := trodVars_none hV
  have hlt : ∀ x ∈ p0 ++ p1, x.block < W.heap.size := fun x hx => hW'.lt x (by simpa using hx)
  obtain ⟨a0, w0, e0⟩ := dec_int_arg Try.underlying3 (hval 0 3 v0 rfl rfl) r0
  obtain ⟨a1, w1, e1⟩ := dec_slice_arg (k := 1) Try.underlying22 (by kernel_rfl) (by decide) (fun _ => rfl) (dec_int Try.underlying3) (hval 1 22 v1 rfl rfl) r1
  simp only [List.append_nil] at hW'
  refine ((fnl a0 a1 ).law (W := W) (args := #[v0, v1]) rfl (fun j hj => ?_)).mono fun e W' ⟨he, hb⟩ => ?_
  · match j, hj with
    | 0, _ => exact e0
    | 1, _ => exact e1
  · subst he
    exact ⟨_, rfl, post_law (pa := p0 ++ p1) (pv := []) hW' (fun _ _ _ => trodAll_mk1 (shut_bool Try.underlying4 true)) (fun sp hsp => trodAll_stays laidOut hb reads hA hlt (fun p hp => hsp p (by simpa using hp))) (fun _ _ => rfl) (by simp) hb (ok_one (by kernel_rfl) rfl (okWide_bool_mk Try.underlying4 _))⟩
theorem over : Rows.RestoreSplitsSaid :=
  OpenClaim.holds_of_wide 3 Try.f3 rfl rfl rfl rfl rfl rfl rfl ⟨rfl, rfl, rfl, rfl, rfl⟩ rfl rfl rfl rfl rfl (by kernel_rfl) Try.func3 (by kernel_rfl)
    (of_decide_eq_true (by kernel_rfl)) (by unfold Func.isWrapper; first | (rw [if_pos (by decide +kernel)]; kernel_rfl) | (rw [if_neg (by decide +kernel)]; exact ⟨rfl, rfl⟩))
    (fun os started H enc _ => lifted os started H enc)
end Go.Proofs.Ytcdcpambkdlhjaa.As
