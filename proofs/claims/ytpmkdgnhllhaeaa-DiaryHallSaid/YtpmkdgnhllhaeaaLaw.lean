/- The law DiaryHall returns true for every input, and each argument reads behind the call as it read before: no condition. -/
import Derived.Test.YtpmkdgnhllhaeaaWalk2
import Derived.Test.YtpmkdgnhllhaeaaRows
namespace Go.Proofs.Ytpmkdgnhllhaeaa.As
open Go Go.Proofs Go.Proofs.Ytpmkdgnhllhaeaa Go.ChangeShapes Go.WideShapes Go.ChangeAt Go.RowKit
def wWindow (x : Window) : Prop := (fun n : Int => IntKind.i64.min ≤ n ∧ n ≤ IntKind.i64.max) x.From ∧ (fun n : Int => IntKind.i64.min ≤ n ∧ n ≤ IntKind.i64.max) x.To
theorem dec_Window : Dec Try.prog 86 eWindow wWindow := by
  intro H enc W base spare held fuel cs r h
  obtain ⟨xs, n, rfl, rfl, hl, hx, hf⟩ := DataW.trod_struct Try.underlying86 h
  have hx : xs.length = 2 := hx
  have hl : cs.length = 2 := hl.trans (by kernel_rfl)
  obtain ⟨a0, w0, c0⟩ := dec_fk (dec_int Try.underlying3) 0 1 (by kernel_rfl) (hf 0 _ rfl) (by rw [hx]; decide)
  obtain ⟨a1, w1, c1⟩ := dec_fk (dec_int Try.underlying3) 1 1 (by kernel_rfl) (hf 1 _ rfl) (by rw [hx]; decide)
  refine ⟨⟨a0, a1⟩, ⟨w0, w1⟩, ?_⟩
  have hc : CellsFrom W cs 0 _ := (cells_cons (off := 0) (k := 1) (off' := 1) c0 rfl rfl (cells_cons (off := 1) (k := 1) (off' := 2) c1 rfl rfl (cells_nil hl)))
  exact hc
theorem fnl (a0 : List (Window)) (a1 : List (Int)) (a2 : Window)  : FnL Try.prog 9 [(eS 2 eWindow) a0, (eS 1 vi) a1, eWindow a2] [] (vb true) [] :=
  agraffelaw09_DiaryHall_ok _ a0 a1 a2 true (pure_DiaryHall a0 a1 a2 )
theorem own : ownKnob Try.prog.godebug = Option.none := by kernel_rfl
theorem laidOut : laidOutB Try.prog = true := by kernel_rfl
theorem reads : ∀ t ∈ Try.f9.params.toList, Try.prog.readableRec t = true ∧ t < Try.prog.types.size := by
  rw [Try.params9]
  intro t ht
  simp only [List.mem_cons, List.not_mem_nil, or_false] at ht
  rcases ht with rfl | rfl | rfl <;> exact ⟨by kernel_rfl, by decide +kernel⟩
set_option maxRecDepth 100000 in
theorem lifted (os : Os) (started : os.Started) (H : Type) (enc : TypeId × Value → H) :
    ReturnsInHanded {} Try.checked os 9 .any (Rows.diaryHallSpec.pre6 enc Try.prog Try.f9 Rows.diaryHallRow.domain false) (Rows.diaryHallSpec.post enc Try.prog Try.f9 false true false false) := by
  refine returnsInHanded_of_change (C := Try.checked) own started (by kernel_rfl) Try.func9
    (ChangeSpec.witness6 (enc := enc) (C := Try.checked) false ⟨#[], #[.slice none 0 0, .slice none 0 0, .agg #[.int .i64 0, .int .i64 0]], []⟩ 8 (by kernel_rfl) (by kernel_rfl) (by kernel_rfl) (by kernel_rfl)) ?_
  intro W base args ds gs before hval0 hW hcnd _
  have hW' := hW
  obtain ⟨p, q, hA0, hV, rfl, hfz, hnd⟩ := hW
  have hA : DataW.TrodAll enc Try.prog W 0 (fun _ => true) true Try.f9.params.toList args.toList ds p := hA0
  have hA1 := hA
  have hval : ∀ (j : Nat) t v, Try.f9.params[j]? = some t → args[j]? = some v → Value.okWide Try.prog W .any base t v := hval0
  rw [Try.params9] at hval
  rw [Try.params9] at hA1
  obtain ⟨v0, v1, v2, d0, d1, d2, p0, p1, p2, rfl, rfl, rfl, r0, r1, r2⟩ := trodAll_three hA1
  obtain ⟨rfl, rfl⟩ := trodVars_none hV
  have hlt : ∀ x ∈ p0 ++ p1 ++ p2, x.block < W.heap.size := fun x hx => hW'.lt x (by simpa using hx)
  obtain ⟨a0, w0, e0⟩ := dec_slice_arg (k := 2) Try.underlying62 (by kernel_rfl) (by decide) (fun _ => rfl) dec_Window (hval 0 62 v0 rfl rfl) r0
  obtain ⟨a1, w1, e1⟩ := dec_slice_arg (k := 1) Try.underlying64 (by kernel_rfl) (by decide) (fun _ => rfl) (dec_int Try.underlying3) (hval 1 64 v1 rfl rfl) r1
  obtain ⟨a2, w2, e2⟩ := dec_struct_arg Try.underlying86 dec_Window (fun _ => rfl) (hval 2 86 v2 rfl rfl) r2
  simp only [List.append_nil] at hW'
  refine ((fnl a0 a1 a2 ).law (W := W) (args := #[v0, v1, v2]) rfl (fun j hj => ?_)).mono fun e W' ⟨he, hb⟩ => ?_
  · match j, hj with
    | 0, _ => exact e0
    | 1, _ => exact e1
    | 2, _ => exact e2
  · subst he
    exact ⟨_, rfl, post_law (pa := p0 ++ p1 ++ p2) (pv := []) hW' (fun _ _ _ => trodAll_mk1 (shut_bool Try.underlying4 true)) (fun sp hsp => trodAll_stays laidOut hb reads hA hlt (fun p hp => hsp p (by simpa using hp))) (fun _ _ => rfl) (by simp) hb (ok_one (by kernel_rfl) rfl (okWide_bool_mk Try.underlying4 _))⟩
theorem over : Rows.DiaryHallSaid :=
  OpenClaim.holds_of_wide 9 Try.f9 rfl rfl rfl rfl rfl rfl rfl ⟨rfl, rfl, rfl, rfl, rfl⟩ rfl rfl rfl rfl rfl (by kernel_rfl) Try.func9 (by kernel_rfl)
    (of_decide_eq_true (by kernel_rfl)) (by unfold Func.isWrapper; first | (rw [if_pos (by decide +kernel)]; kernel_rfl) | (rw [if_neg (by decide +kernel)]; exact ⟨rfl, rfl⟩))
    (fun os started H enc _ => lifted os started H enc)
end Go.Proofs.Ytpmkdgnhllhaeaa.As
