/- The law RestoreMatches returns true for every input, and each argument reads behind the call as it read before: no condition. -/
import Derived.Test.YtifabpmjiphhdaaGreatWalk2
import Derived.Test.YtifabpmjiphhdaaGreatRows
namespace Go.Proofs.YtifabpmjiphhdaaGreat.As
open Go Go.Proofs Go.Proofs.YtifabpmjiphhdaaGreat Go.ChangeShapes Go.WideShapes Go.ChangeAt Go.RowKit
def wRange (x : Range) : Prop := (fun n : Int => IntKind.i64.min ≤ n ∧ n ≤ IntKind.i64.max) x.Lo ∧ (fun n : Int => IntKind.i64.min ≤ n ∧ n ≤ IntKind.i64.max) x.Hi
theorem dec_Range : Dec Tryz.prog 196 eRange wRange := by
  intro H enc W base spare held fuel cs r h
  obtain ⟨xs, n, rfl, rfl, hl, hx, hf⟩ := DataW.trod_struct Tryz.underlying196 h
  have hx : xs.length = 2 := hx
  have hl : cs.length = 2 := hl.trans (by kernel_rfl)
  obtain ⟨a0, w0, c0⟩ := dec_fk (dec_int Tryz.underlying3) 0 1 (by kernel_rfl) (hf 0 _ rfl) (by rw [hx]; decide)
  obtain ⟨a1, w1, c1⟩ := dec_fk (dec_int Tryz.underlying3) 1 1 (by kernel_rfl) (hf 1 _ rfl) (by rw [hx]; decide)
  refine ⟨⟨a0, a1⟩, ⟨w0, w1⟩, ?_⟩
  have hc : CellsFrom W cs 0 _ := (cells_cons (off := 0) (k := 1) (off' := 1) c0 rfl rfl (cells_cons (off := 1) (k := 1) (off' := 2) c1 rfl rfl (cells_nil hl)))
  exact hc
def wWantedPart (x : WantedPart) : Prop := (fun s : Str => s.length ≤ 9223372036854775807) x.Name ∧ (fun l : List (Range) => (∀ x ∈ l, (wRange) x) ∧ l.length ≤ 9223372036854775807) x.Ranges
theorem dec_WantedPart : Dec Tryz.prog 107 eWantedPart wWantedPart := by
  intro H enc W base spare held fuel cs r h
  obtain ⟨xs, n, rfl, rfl, hl, hx, hf⟩ := DataW.trod_struct Tryz.underlying107 h
  have hx : xs.length = 2 := hx
  have hl : cs.length = 2 := hl.trans (by kernel_rfl)
  obtain ⟨a0, w0, c0⟩ := dec_fk (dec_str Tryz.underlying9) 0 1 (by kernel_rfl) (hf 0 _ rfl) (by rw [hx]; decide)
  obtain ⟨a1, w1, c1⟩ := dec_fk (dec_slice (k := 2) Tryz.underlying105 (by kernel_rfl) (by decide) (fun _ => rfl) dec_Range) 1 1 (by kernel_rfl) (hf 1 _ rfl) (by rw [hx]; decide)
  refine ⟨⟨a0, a1⟩, ⟨w0, w1⟩, ?_⟩
  have hc : CellsFrom W cs 0 _ := (cells_cons (off := 0) (k := 1) (off' := 1) c0 rfl rfl (cells_cons (off := 1) (k := 1) (off' := 2) c1 rfl rfl (cells_nil hl)))
  exact hc
def wOfferedPart (x : OfferedPart) : Prop := (fun s : Str => s.length ≤ 9223372036854775807) x.Name ∧ (fun l : List (Int) => (∀ x ∈ l, (fun n : Int => IntKind.i64.min ≤ n ∧ n ≤ IntKind.i64.max) x) ∧ l.length ≤ 9223372036854775807) x.Sizes
theorem dec_OfferedPart : Dec Tryz.prog 109 eOfferedPart wOfferedPart := by
  intro H enc W base spare held fuel cs r h
  obtain ⟨xs, n, rfl, rfl, hl, hx, hf⟩ := DataW.trod_struct Tryz.underlying109 h
  have hx : xs.length = 2 := hx
  have hl : cs.length = 2 := hl.trans (by kernel_rfl)
  obtain ⟨a0, w0, c0⟩ := dec_fk (dec_str Tryz.underlying9) 0 1 (by kernel_rfl) (hf 0 _ rfl) (by rw [hx]; decide)
  obtain ⟨a1, w1, c1⟩ := dec_fk (dec_slice (k := 1) Tryz.underlying84 (by kernel_rfl) (by decide) (fun _ => rfl) (dec_int Tryz.underlying3)) 1 1 (by kernel_rfl) (hf 1 _ rfl) (by rw [hx]; decide)
  refine ⟨⟨a0, a1⟩, ⟨w0, w1⟩, ?_⟩
  have hc : CellsFrom W cs 0 _ := (cells_cons (off := 0) (k := 1) (off' := 1) c0 rfl rfl (cells_cons (off := 1) (k := 1) (off' := 2) c1 rfl rfl (cells_nil hl)))
  exact hc
theorem fnl (a0 : List (WantedPart)) (a1 : List (OfferedPart))  : FnL Tryz.prog 10 [(eS 2 eWantedPart) a0, (eS 2 eOfferedPart) a1] [] (vb true) [] :=
  agraffelaw08_RestoreMatches_ok _ a0 a1 true (pure_RestoreMatches a0 a1 )
theorem own : ownKnob Tryz.prog.godebug = Option.none := by kernel_rfl
theorem laidOut : laidOutB Tryz.prog = true := by kernel_rfl
theorem reads : ∀ t ∈ Tryz.f10.params.toList, Tryz.prog.readableRec t = true ∧ t < Tryz.prog.types.size := by
  rw [Tryz.params10]
  intro t ht
  simp only [List.mem_cons, List.not_mem_nil, or_false] at ht
  rcases ht with rfl | rfl <;> exact ⟨by kernel_rfl, by decide +kernel⟩
set_option maxRecDepth 100000 in
theorem lifted (os : Os) (started : os.Started) (H : Type) (enc : TypeId × Value → H) :
    ReturnsInHanded {} Tryz.checked os 10 .any (Rows.restoreMatchesSpec.pre6 enc Tryz.prog Tryz.f10 Rows.restoreMatchesRow.domain false) (Rows.restoreMatchesSpec.post enc Tryz.prog Tryz.f10 false true false false) := by
  refine returnsInHanded_of_change (C := Tryz.checked) own started (by kernel_rfl) Tryz.func10
    (ChangeSpec.witness6 (enc := enc) (C := Tryz.checked) false ⟨#[], #[.slice none 0 0, .slice none 0 0], []⟩ 8 (by kernel_rfl) (by kernel_rfl) (by kernel_rfl) (by kernel_rfl)) ?_
  intro W base args ds gs before hval0 hW hcnd _
  have hW' := hW
  obtain ⟨p, q, hA0, hV, rfl, hfz, hnd⟩ := hW
  have hA : DataW.TrodAll enc Tryz.prog W 0 (fun _ => true) true Tryz.f10.params.toList args.toList ds p := hA0
  have hA1 := hA
  have hval : ∀ (j : Nat) t v, Tryz.f10.params[j]? = some t → args[j]? = some v → Value.okWide Tryz.prog W .any base t v := hval0
  rw [Tryz.params10] at hval
  rw [Tryz.params10] at hA1
  obtain ⟨v0, v1, d0, d1, p0, p1, rfl, rfl, rfl, r0, r1⟩ := trodAll_two hA1
  obtain ⟨rfl, rfl⟩ := trodVars_none hV
  have hlt : ∀ x ∈ p0 ++ p1, x.block < W.heap.size := fun x hx => hW'.lt x (by simpa using hx)
  obtain ⟨a0, w0, e0⟩ := dec_slice_arg (k := 2) Tryz.underlying82 (by kernel_rfl) (by decide) (fun _ => rfl) dec_WantedPart (hval 0 82 v0 rfl rfl) r0
  obtain ⟨a1, w1, e1⟩ := dec_slice_arg (k := 2) Tryz.underlying83 (by kernel_rfl) (by decide) (fun _ => rfl) dec_OfferedPart (hval 1 83 v1 rfl rfl) r1
  simp only [List.append_nil] at hW'
  refine ((fnl a0 a1 ).law (W := W) (args := #[v0, v1]) rfl (fun j hj => ?_)).mono fun e W' ⟨he, hb⟩ => ?_
  · match j, hj with
    | 0, _ => exact e0
    | 1, _ => exact e1
  · subst he
    exact ⟨_, rfl, post_law (pa := p0 ++ p1) (pv := []) hW' (fun _ _ _ => trodAll_mk1 (shut_bool Tryz.underlying4 true)) (fun sp hsp => trodAll_stays laidOut hb reads hA hlt (fun p hp => hsp p (by simpa using hp))) (fun _ _ => rfl) (by simp) hb (ok_one (by kernel_rfl) rfl (okWide_bool_mk Tryz.underlying4 _))⟩
theorem over : Rows.RestoreMatchesSaid :=
  OpenClaim.holds_of_wide 10 Tryz.f10 rfl rfl rfl rfl rfl rfl rfl ⟨rfl, rfl, rfl, rfl, rfl⟩ rfl rfl rfl rfl rfl (by kernel_rfl) Tryz.func10 (by kernel_rfl)
    (of_decide_eq_true (by kernel_rfl)) (by unfold Func.isWrapper; first | (rw [if_pos (by decide +kernel)]; kernel_rfl) | (rw [if_neg (by decide +kernel)]; exact ⟨rfl, rfl⟩))
    (fun os started H enc _ => lifted os started H enc)
end Go.Proofs.YtifabpmjiphhdaaGreat.As
