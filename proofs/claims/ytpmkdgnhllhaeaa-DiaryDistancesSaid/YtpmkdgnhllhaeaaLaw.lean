/- The law DiaryDistances returns true for every input, and each argument reads behind the call as it read before: no condition. -/
import Derived.Test.YtpmkdgnhllhaeaaWalk2
import Derived.Test.YtpmkdgnhllhaeaaRows
namespace Go.Proofs.Ytpmkdgnhllhaeaa.As
open Go Go.Proofs Go.Proofs.Ytpmkdgnhllhaeaa Go.ChangeShapes Go.WideShapes Go.ChangeAt Go.RowKit
def wRoad (x : Road) : Prop := (fun s : Str => s.length ≤ 9223372036854775807) x.A ∧ (fun s : Str => s.length ≤ 9223372036854775807) x.B ∧ (fun n : Int => IntKind.i64.min ≤ n ∧ n ≤ IntKind.i64.max) x.Minutes ∧ (fun n : Int => IntKind.i64.min ≤ n ∧ n ≤ IntKind.i64.max) x.Width
theorem dec_Road : Dec Try.prog 106 eRoad wRoad := by
  intro H enc W base spare held fuel cs r h
  obtain ⟨xs, n, rfl, rfl, hl, hx, hf⟩ := DataW.trod_struct Try.underlying106 h
  have hx : xs.length = 4 := hx
  have hl : cs.length = 4 := hl.trans (by kernel_rfl)
  obtain ⟨a0, w0, c0⟩ := dec_fk (dec_str Try.underlying9) 0 1 (by kernel_rfl) (hf 0 _ rfl) (by rw [hx]; decide)
  obtain ⟨a1, w1, c1⟩ := dec_fk (dec_str Try.underlying9) 1 1 (by kernel_rfl) (hf 1 _ rfl) (by rw [hx]; decide)
  obtain ⟨a2, w2, c2⟩ := dec_fk (dec_int Try.underlying3) 2 1 (by kernel_rfl) (hf 2 _ rfl) (by rw [hx]; decide)
  obtain ⟨a3, w3, c3⟩ := dec_fk (dec_int Try.underlying3) 3 1 (by kernel_rfl) (hf 3 _ rfl) (by rw [hx]; decide)
  refine ⟨⟨a0, a1, a2, a3⟩, ⟨w0, w1, w2, w3⟩, ?_⟩
  have hc : CellsFrom W cs 0 _ := (cells_cons (off := 0) (k := 1) (off' := 1) c0 rfl rfl (cells_cons (off := 1) (k := 1) (off' := 2) c1 rfl rfl (cells_cons (off := 2) (k := 1) (off' := 3) c2 rfl rfl (cells_cons (off := 3) (k := 1) (off' := 4) c3 rfl rfl (cells_nil hl)))))
  exact hc
def wGrand (x : Grand) : Prop := (fun s : Str => s.length ≤ 9223372036854775807) x.Name ∧ (fun s : Str => s.length ≤ 9223372036854775807) x.Place ∧ (fun n : Int => IntKind.i64.min ≤ n ∧ n ≤ IntKind.i64.max) x.Width
theorem dec_Grand : Dec Try.prog 98 eGrand wGrand := by
  intro H enc W base spare held fuel cs r h
  obtain ⟨xs, n, rfl, rfl, hl, hx, hf⟩ := DataW.trod_struct Try.underlying98 h
  have hx : xs.length = 3 := hx
  have hl : cs.length = 3 := hl.trans (by kernel_rfl)
  obtain ⟨a0, w0, c0⟩ := dec_fk (dec_str Try.underlying9) 0 1 (by kernel_rfl) (hf 0 _ rfl) (by rw [hx]; decide)
  obtain ⟨a1, w1, c1⟩ := dec_fk (dec_str Try.underlying9) 1 1 (by kernel_rfl) (hf 1 _ rfl) (by rw [hx]; decide)
  obtain ⟨a2, w2, c2⟩ := dec_fk (dec_int Try.underlying3) 2 1 (by kernel_rfl) (hf 2 _ rfl) (by rw [hx]; decide)
  refine ⟨⟨a0, a1, a2⟩, ⟨w0, w1, w2⟩, ?_⟩
  have hc : CellsFrom W cs 0 _ := (cells_cons (off := 0) (k := 1) (off' := 1) c0 rfl rfl (cells_cons (off := 1) (k := 1) (off' := 2) c1 rfl rfl (cells_cons (off := 2) (k := 1) (off' := 3) c2 rfl rfl (cells_nil hl))))
  exact hc
def wDiary (x : Diary) : Prop := (fun l : List (Str) => (∀ x ∈ l, (fun s : Str => s.length ≤ 9223372036854775807) x) ∧ l.length ≤ 9223372036854775807) x.Places ∧ (fun l : List (Str) => (∀ x ∈ l, (fun s : Str => s.length ≤ 9223372036854775807) x) ∧ l.length ≤ 9223372036854775807) x.Technicians ∧ (fun l : List (Road) => (∀ x ∈ l, (wRoad) x) ∧ l.length ≤ 9223372036854775807) x.Roads ∧ (fun l : List (Grand) => (∀ x ∈ l, (wGrand) x) ∧ l.length ≤ 9223372036854775807) x.Grands ∧ (fun n : Int => IntKind.i64.min ≤ n ∧ n ≤ IntKind.i64.max) x.Change ∧ (fun n : Int => IntKind.i64.min ≤ n ∧ n ≤ IntKind.i64.max) x.Lasts
theorem dec_Diary : Dec Try.prog 26 eDiary wDiary := by
  intro H enc W base spare held fuel cs r h
  obtain ⟨xs, n, rfl, rfl, hl, hx, hf⟩ := DataW.trod_struct Try.underlying26 h
  have hx : xs.length = 6 := hx
  have hl : cs.length = 6 := hl.trans (by kernel_rfl)
  obtain ⟨a0, w0, c0⟩ := dec_fk (dec_slice (k := 1) Try.underlying22 (by kernel_rfl) (by decide) (fun _ => rfl) (dec_str Try.underlying9)) 0 1 (by kernel_rfl) (hf 0 _ rfl) (by rw [hx]; decide)
  obtain ⟨a1, w1, c1⟩ := dec_fk (dec_slice (k := 1) Try.underlying22 (by kernel_rfl) (by decide) (fun _ => rfl) (dec_str Try.underlying9)) 1 1 (by kernel_rfl) (hf 1 _ rfl) (by rw [hx]; decide)
  obtain ⟨a2, w2, c2⟩ := dec_fk (dec_slice (k := 4) Try.underlying23 (by kernel_rfl) (by decide) (fun _ => rfl) dec_Road) 2 1 (by kernel_rfl) (hf 2 _ rfl) (by rw [hx]; decide)
  obtain ⟨a3, w3, c3⟩ := dec_fk (dec_slice (k := 3) Try.underlying24 (by kernel_rfl) (by decide) (fun _ => rfl) dec_Grand) 3 1 (by kernel_rfl) (hf 3 _ rfl) (by rw [hx]; decide)
  obtain ⟨a4, w4, c4⟩ := dec_fk (dec_int Try.underlying3) 4 1 (by kernel_rfl) (hf 4 _ rfl) (by rw [hx]; decide)
  obtain ⟨a5, w5, c5⟩ := dec_fk (dec_int Try.underlying3) 5 1 (by kernel_rfl) (hf 5 _ rfl) (by rw [hx]; decide)
  refine ⟨⟨a0, a1, a2, a3, a4, a5⟩, ⟨w0, w1, w2, w3, w4, w5⟩, ?_⟩
  have hc : CellsFrom W cs 0 _ := (cells_cons (off := 0) (k := 1) (off' := 1) c0 rfl rfl (cells_cons (off := 1) (k := 1) (off' := 2) c1 rfl rfl (cells_cons (off := 2) (k := 1) (off' := 3) c2 rfl rfl (cells_cons (off := 3) (k := 1) (off' := 4) c3 rfl rfl (cells_cons (off := 4) (k := 1) (off' := 5) c4 rfl rfl (cells_cons (off := 5) (k := 1) (off' := 6) c5 rfl rfl (cells_nil hl)))))))
  exact hc
def wArr3_Str (x : Arr3_Str) : Prop := (fun s : Str => s.length ≤ 9223372036854775807) x.a0 ∧ (fun s : Str => s.length ≤ 9223372036854775807) x.a1 ∧ (fun s : Str => s.length ≤ 9223372036854775807) x.a2
theorem dec_Arr3_Str : Dec Try.prog 55 eArr3_Str wArr3_Str := by
  intro H enc W base spare held fuel cs r h
  obtain ⟨xs, n, rfl, rfl, hl, hx, hf⟩ := DataW.trod_array Try.underlying55 h
  have hx : xs.length = 3 := hx
  have hl : cs.length = 3 := hl.trans (by kernel_rfl)
  have hk : Try.prog.cellsOf 9 = 1 := by kernel_rfl
  rw [hk] at hf
  obtain ⟨a0, w0, c0⟩ := dec_f (dec_str Try.underlying9) (hf 0 (by decide)) (by rw [hx]; decide)
  obtain ⟨a1, w1, c1⟩ := dec_f (dec_str Try.underlying9) (hf 1 (by decide)) (by rw [hx]; decide)
  obtain ⟨a2, w2, c2⟩ := dec_f (dec_str Try.underlying9) (hf 2 (by decide)) (by rw [hx]; decide)
  refine ⟨⟨a0, a1, a2⟩, ⟨w0, w1, w2⟩, ?_⟩
  have hc : CellsFrom W cs 0 _ := (cells_cons (off := 0) (k := 1) (off' := 1) c0 rfl rfl (cells_cons (off := 1) (k := 1) (off' := 2) c1 rfl rfl (cells_cons (off := 2) (k := 1) (off' := 3) c2 rfl rfl (cells_nil hl))))
  exact hc
theorem fnl (a0 : Diary) (a1 : Arr3_Str) (a2 : Int) (hp : a0.Places.length ≤ 9223372036854775807) (ht : a0.Technicians.length ≤ 9223372036854775807) : FnL Try.prog 6 [eDiary a0, eArr3_Str a1, vi a2] [] (vb true) [] :=
  agraffelaw09_DiaryDistances_ok _ a0 a1 a2 true (pure_DiaryDistances a0 a1 a2 hp ht)
theorem own : ownKnob Try.prog.godebug = Option.none := by kernel_rfl
theorem laidOut : laidOutB Try.prog = true := by kernel_rfl
theorem reads : ∀ t ∈ Try.f6.params.toList, Try.prog.readableRec t = true ∧ t < Try.prog.types.size := by
  rw [Try.params6]
  intro t ht
  simp only [List.mem_cons, List.not_mem_nil, or_false] at ht
  rcases ht with rfl | rfl | rfl <;> exact ⟨by kernel_rfl, by decide +kernel⟩
set_option maxRecDepth 100000 in
theorem lifted (os : Os) (started : os.Started) (H : Type) (enc : TypeId × Value → H) :
    ReturnsInHanded {} Try.checked os 6 .any (Rows.diaryDistancesSpec.pre6 enc Try.prog Try.f6 Rows.diaryDistancesRow.domain false) (Rows.diaryDistancesSpec.post enc Try.prog Try.f6 false true false false) := by
  refine returnsInHanded_of_change (C := Try.checked) own started (by kernel_rfl) Try.func6
    (ChangeSpec.witness6 (enc := enc) (C := Try.checked) false ⟨#[], #[.agg #[.slice none 0 0, .slice none 0 0, .slice none 0 0, .slice none 0 0, .int .i64 0, .int .i64 0], .agg #[.string ⟨#[]⟩, .string ⟨#[]⟩, .string ⟨#[]⟩], .int .i64 0], []⟩ 8 (by kernel_rfl) (by kernel_rfl) (by kernel_rfl) (by kernel_rfl)) ?_
  intro W base args ds gs before hval0 hW hcnd _
  have hW' := hW
  obtain ⟨p, q, hA0, hV, rfl, hfz, hnd⟩ := hW
  have hA : DataW.TrodAll enc Try.prog W 0 (fun _ => true) true Try.f6.params.toList args.toList ds p := hA0
  have hA1 := hA
  have hval : ∀ (j : Nat) t v, Try.f6.params[j]? = some t → args[j]? = some v → Value.okWide Try.prog W .any base t v := hval0
  rw [Try.params6] at hval
  rw [Try.params6] at hA1
  obtain ⟨v0, v1, v2, d0, d1, d2, p0, p1, p2, rfl, rfl, rfl, r0, r1, r2⟩ := trodAll_three hA1
  obtain ⟨rfl, rfl⟩ := trodVars_none hV
  have hlt : ∀ x ∈ p0 ++ p1 ++ p2, x.block < W.heap.size := fun x hx => hW'.lt x (by simpa using hx)
  obtain ⟨a0, w0, e0⟩ := dec_struct_arg Try.underlying26 dec_Diary (fun _ => rfl) (hval 0 26 v0 rfl rfl) r0
  obtain ⟨a1, w1, e1⟩ := dec_array_arg Try.underlying55 dec_Arr3_Str (fun _ => rfl) (hval 1 55 v1 rfl rfl) r1
  obtain ⟨a2, w2, e2⟩ := dec_int_arg Try.underlying3 (hval 2 3 v2 rfl rfl) r2
  simp only [List.append_nil] at hW'
  refine ((fnl a0 a1 a2 w0.1.2 w0.2.1.2).law (W := W) (args := #[v0, v1, v2]) rfl (fun j hj => ?_)).mono fun e W' ⟨he, hb⟩ => ?_
  · match j, hj with
    | 0, _ => exact e0
    | 1, _ => exact e1
    | 2, _ => exact e2
  · subst he
    exact ⟨_, rfl, post_law (pa := p0 ++ p1 ++ p2) (pv := []) hW' (fun _ _ _ => trodAll_mk1 (shut_bool Try.underlying4 true)) (fun sp hsp => trodAll_stays laidOut hb reads hA hlt (fun p hp => hsp p (by simpa using hp))) (fun _ _ => rfl) (by simp) hb (ok_one (by kernel_rfl) rfl (okWide_bool_mk Try.underlying4 _))⟩
theorem over : Rows.DiaryDistancesSaid :=
  OpenClaim.holds_of_wide 6 Try.f6 rfl rfl rfl rfl rfl rfl rfl ⟨rfl, rfl, rfl, rfl, rfl⟩ rfl rfl rfl rfl rfl (by kernel_rfl) Try.func6 (by kernel_rfl)
    (of_decide_eq_true (by kernel_rfl)) (by unfold Func.isWrapper; first | (rw [if_pos (by decide +kernel)]; kernel_rfl) | (rw [if_neg (by decide +kernel)]; exact ⟨rfl, rfl⟩))
    (fun os started H enc _ => lifted os started H enc)
end Go.Proofs.Ytpmkdgnhllhaeaa.As
