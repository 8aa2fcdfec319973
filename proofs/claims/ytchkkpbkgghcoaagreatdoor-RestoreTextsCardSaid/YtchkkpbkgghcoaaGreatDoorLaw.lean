/- The law RestoreTexts returns true for every input, and each argument reads behind the call as it read before; the package variables that the row lists are tied to the program's text by the card: no other condition. -/
import Derived.Test.YtchkkpbkgghcoaaGreatDoorWalk2
import Derived.Test.YtchkkpbkgghcoaaGreatDoorRows
import Derived.Test.YtchkkpbkgghcoaaGreatDoorTie
import Derived.Test.YtchkkpbkgghcoaaGreatDoorCards
import Derived.SevenTiedAt
import Derived.LaidOnce
namespace Go.Proofs.YtchkkpbkgghcoaaGreatDoor.As
open Go Go.Proofs Go.Proofs.YtchkkpbkgghcoaaGreatDoor Go.ChangeShapes Go.WideShapes Go.ChangeAt Go.RowKit
def wPartCount (x : PartCount) : Prop := (fun s : Str => s.length ≤ 9223372036854775807) x.Part ∧ (fun n : Int => IntKind.i64.min ≤ n ∧ n ≤ IntKind.i64.max) x.Count
theorem dec_PartCount : Dec Tryz.prog 111 ePartCount wPartCount := by
  intro H enc W base spare held fuel cs r h
  obtain ⟨xs, n, rfl, rfl, hl, hx, hf⟩ := DataW.trod_struct Tryz.underlying111 h
  have hx : xs.length = 2 := hx
  have hl : cs.length = 2 := hl.trans (by kernel_rfl)
  obtain ⟨a0, w0, c0⟩ := dec_fk (dec_str Tryz.underlying9) 0 1 (by kernel_rfl) (hf 0 _ rfl) (by rw [hx]; decide)
  obtain ⟨a1, w1, c1⟩ := dec_fk (dec_int Tryz.underlying3) 1 1 (by kernel_rfl) (hf 1 _ rfl) (by rw [hx]; decide)
  refine ⟨⟨a0, a1⟩, ⟨w0, w1⟩, ?_⟩
  have hc : CellsFrom W cs 0 _ := (cells_cons (off := 0) (k := 1) (off' := 1) c0 rfl rfl (cells_cons (off := 1) (k := 1) (off' := 2) c1 rfl rfl (cells_nil hl)))
  exact hc
def wTask (x : Task) : Prop := (fun s : Str => s.length ≤ 9223372036854775807) x.Name ∧ (fun n : Int => IntKind.i64.min ≤ n ∧ n ≤ IntKind.i64.max) x.Cents ∧ (fun n : Int => IntKind.i64.min ≤ n ∧ n ≤ IntKind.i64.max) x.Hours ∧ (fun l : List (Str) => (∀ x ∈ l, (fun s : Str => s.length ≤ 9223372036854775807) x) ∧ l.length ≤ 9223372036854775807) x.Needs ∧ (fun l : List (List (Str)) => (∀ x ∈ l, (fun l : List (Str) => (∀ x ∈ l, (fun s : Str => s.length ≤ 9223372036854775807) x) ∧ l.length ≤ 9223372036854775807) x) ∧ l.length ≤ 9223372036854775807) x.OneOf ∧ (fun l : List (PartCount) => (∀ x ∈ l, (wPartCount) x) ∧ l.length ≤ 9223372036854775807) x.Parts
theorem dec_Task : Dec Tryz.prog 108 eTask wTask := by
  intro H enc W base spare held fuel cs r h
  obtain ⟨xs, n, rfl, rfl, hl, hx, hf⟩ := DataW.trod_struct Tryz.underlying108 h
  have hx : xs.length = 6 := hx
  have hl : cs.length = 6 := hl.trans (by kernel_rfl)
  obtain ⟨a0, w0, c0⟩ := dec_fk (dec_str Tryz.underlying9) 0 1 (by kernel_rfl) (hf 0 _ rfl) (by rw [hx]; decide)
  obtain ⟨a1, w1, c1⟩ := dec_fk (dec_int Tryz.underlying3) 1 1 (by kernel_rfl) (hf 1 _ rfl) (by rw [hx]; decide)
  obtain ⟨a2, w2, c2⟩ := dec_fk (dec_int Tryz.underlying3) 2 1 (by kernel_rfl) (hf 2 _ rfl) (by rw [hx]; decide)
  obtain ⟨a3, w3, c3⟩ := dec_fk (dec_slice (k := 1) Tryz.underlying59 (by kernel_rfl) (by decide) (fun _ => rfl) (dec_str Tryz.underlying9)) 3 1 (by kernel_rfl) (hf 3 _ rfl) (by rw [hx]; decide)
  obtain ⟨a4, w4, c4⟩ := dec_fk (dec_slice (k := 1) Tryz.underlying105 (by kernel_rfl) (by decide) (fun _ => rfl) (dec_slice (k := 1) Tryz.underlying59 (by kernel_rfl) (by decide) (fun _ => rfl) (dec_str Tryz.underlying9))) 4 1 (by kernel_rfl) (hf 4 _ rfl) (by rw [hx]; decide)
  obtain ⟨a5, w5, c5⟩ := dec_fk (dec_slice (k := 2) Tryz.underlying106 (by kernel_rfl) (by decide) (fun _ => rfl) dec_PartCount) 5 1 (by kernel_rfl) (hf 5 _ rfl) (by rw [hx]; decide)
  refine ⟨⟨a0, a1, a2, a3, a4, a5⟩, ⟨w0, w1, w2, w3, w4, w5⟩, ?_⟩
  have hc : CellsFrom W cs 0 _ := (cells_cons (off := 0) (k := 1) (off' := 1) c0 rfl rfl (cells_cons (off := 1) (k := 1) (off' := 2) c1 rfl rfl (cells_cons (off := 2) (k := 1) (off' := 3) c2 rfl rfl (cells_cons (off := 3) (k := 1) (off' := 4) c3 rfl rfl (cells_cons (off := 4) (k := 1) (off' := 5) c4 rfl rfl (cells_cons (off := 5) (k := 1) (off' := 6) c5 rfl rfl (cells_nil hl)))))))
  exact hc
theorem fnl (a0 : List (Task)) (a1 : Str)  : FnL Tryz.prog 5 [(eS 6 eTask) a0, vt a1] [] (vb true) [] :=
  agraffelaw08_RestoreTexts_ok _ a0 a1 true (pure_RestoreTexts a0 a1 )
theorem own : ownKnob Tryz.prog.godebug = Option.none := by kernel_rfl
theorem laidOut : laidOutB Tryz.prog = true := by kernel_rfl
theorem reads : ∀ t ∈ Tryz.f5.params.toList, Tryz.prog.readableRec t = true ∧ t < Tryz.prog.types.size := by
  rw [Tryz.params5]
  intro t ht
  simp only [List.mem_cons, List.not_mem_nil, or_false] at ht
  rcases ht with rfl | rfl <;> exact ⟨by kernel_rfl, by decide +kernel⟩
theorem grep_start {W : World} (hS : W.ShapedOpen Tryz.prog) (hL : laidMet Tryz.prog Rows.restoreTextsRow.laid W) : GRep W (Fz W) := by
  have rd := fun {n : String} {d : DataW Unit} (hm : (n, d) ∈ Rows.restoreTextsRow.laid) => Lib.laidMet.reads hL hm
  refine ⟨fun g => ?_, fun x hx => ?_⟩
  · match g with
    | _ => exact .inl rfl
  · simp only [globC, List.mem_cons, List.not_mem_nil, or_false] at hx
    rcases hx with rfl | rfl | rfl | rfl
    · obtain ⟨g, t, cs, fuel, p, hg, hty, hv, hd⟩ := rd (List.Mem.tail _ (List.Mem.tail _ (List.Mem.head _)))
      obtain rfl := Option.some.inj ((show Tryz.prog.globalNamed "internal/strconv.uint64pow10" = some 2 by kernel_rfl).symm.trans hg)
      obtain rfl := Option.some.inj ((show (Tryz.prog.globals[2]?).map (·.type) = some 287 by kernel_rfl).symm.trans hty)
      obtain ⟨T, z, hh⟩ := var_heap hg hv
      have hc := Lib.cells_of_tab (zs := (List.range 20).map fun i => ((10 ^ i : Nat) : Int)) (n := 20) (e := 243) Tryz.underlying287 Tryz.underlying243 (by kernel_rfl) (by kernel_rfl) hd
      refine ⟨heap_lt hh, cs, T, z, hh, ?_⟩
      refine Array.ext' ?_
      rw [hc]
      simp
    · obtain ⟨m, hm⟩ := cell_of_shapedOpen_int (k := .i64) (g := 1) (t := 3) (zero := #[.int .i64 0]) hS (by decide +kernel) (by kernel_rfl) rfl (by kernel_rfl) (by kernel_rfl) Tryz.underlying3
      obtain ⟨cs, T, z, hh, hc⟩ := cell_heap hm
      exact ⟨heap_lt hh, cs, T, z, hh, m, hc⟩
    · obtain ⟨g, t, cs, fuel, p, hg, hty, hv, hd⟩ := rd (List.Mem.tail _ (List.Mem.tail _ (List.Mem.tail _ (List.Mem.tail _ (List.Mem.tail _ (List.Mem.head _))))))
      obtain rfl := Option.some.inj ((show Tryz.prog.globalNamed "strconv.ErrSyntax" = some 3 by kernel_rfl).symm.trans hg)
      obtain rfl := Option.some.inj ((show (Tryz.prog.globals[3]?).map (·.type) = some 118 by kernel_rfl).symm.trans hty)
      obtain ⟨T, z, hh⟩ := var_heap hg hv
      obtain ⟨ev, hc, he⟩ := iface_of_trod Tryz.underlying118 hd
      exact ⟨heap_lt hh, cs, T, z, hh, ev, by have : cs = #[ev] := Array.ext' hc; rw [this]; rfl, he⟩
    · obtain ⟨g, t, cs, fuel, p, hg, hty, hv, hd⟩ := rd (List.Mem.tail _ (List.Mem.tail _ (List.Mem.tail _ (List.Mem.tail _ (List.Mem.head _)))))
      obtain rfl := Option.some.inj ((show Tryz.prog.globalNamed "strconv.ErrRange" = some 4 by kernel_rfl).symm.trans hg)
      obtain rfl := Option.some.inj ((show (Tryz.prog.globals[4]?).map (·.type) = some 118 by kernel_rfl).symm.trans hty)
      obtain ⟨T, z, hh⟩ := var_heap hg hv
      obtain ⟨ev, hc, he⟩ := iface_of_trod Tryz.underlying118 hd
      exact ⟨heap_lt hh, cs, T, z, hh, ev, by have : cs = #[ev] := Array.ext' hc; rw [this]; rfl, he⟩
set_option maxRecDepth 100000 in
theorem lifted (os : Os) (started : os.Started) (H : Type) (enc : TypeId × Value → H) :
    ReturnsInHanded {} Tryz.checked os 5 .any (fun w args => (Rows.restoreTextsSpec.pre enc Tryz.prog Tryz.f5 Rows.restoreTextsRow.domain false w args ∧ laidMetH Tryz.prog Rows.restoreTextsRow.laid w) ∧ sizedMet enc Tryz.prog Tryz.f5 (OpenSpec.ofChange Rows.restoreTextsSpec) false w args) (Rows.restoreTextsSpec.post enc Tryz.prog Tryz.f5 false true false false) := by
  refine returns_laid (C := Tryz.checked) (X := fun w _ => laidMetH Tryz.prog Rows.restoreTextsRow.laid w) (fun _ _ _ hh h => h.of_heap hh) own started (by kernel_rfl) Tryz.func5
    (ChangeSpec.witness_shaped (enc := enc) (C := Tryz.checked) (os := os) (X := fun w _ => laidMetH Tryz.prog Rows.restoreTextsRow.laid w) false (World.laidAll Tryz.prog os Rows.restoreTextsRow.laid) #[.slice none 0 0, .string ⟨#[]⟩] 8 (World.laidAll_os _ _ _)
      (World.shaped_of_ZipB (by kernel_rfl) (by kernel_rfl)) (by kernel_rfl) (by kernel_rfl) (by kernel_rfl)
      (by rw [MakeChecks.laidMetH_plain _ _ _ (by kernel_rfl)]; exact laidMet_laidAll _ (by kernel_rfl) (by kernel_rfl))) ?_
  intro W base args ds gs before hval0 hW hS hL
  rw [MakeChecks.laidMetH_plain _ _ _ (by kernel_rfl)] at hL
  have hG := grep_start hS hL
  have hW' := hW
  obtain ⟨p, q, hA0, hV, rfl, hfz, hnd⟩ := hW
  have hA : DataW.TrodAll enc Tryz.prog W 0 (fun _ => true) true Tryz.f5.params.toList args.toList ds p := hA0
  have hA1 := hA
  have hval : ∀ (j : Nat) t v, Tryz.f5.params[j]? = some t → args[j]? = some v → Value.okWide Tryz.prog W .any base t v := hval0
  rw [Tryz.params5] at hval
  rw [Tryz.params5] at hA1
  obtain ⟨v0, v1, d0, d1, p0, p1, rfl, rfl, rfl, r0, r1⟩ := trodAll_two hA1
  obtain ⟨rfl, rfl⟩ := trodVars_none hV
  have hlt : ∀ x ∈ p0 ++ p1, x.block < W.heap.size := fun x hx => hW'.lt x (by simpa using hx)
  obtain ⟨a0, w0, e0⟩ := dec_slice_arg (k := 6) Tryz.underlying46 (by kernel_rfl) (by decide) (fun _ => rfl) dec_Task (hval 0 46 v0 rfl rfl) r0
  obtain ⟨a1, w1, e1⟩ := dec_str_arg Tryz.underlying9 (hval 1 9 v1 rfl rfl) r1
  simp only [List.append_nil] at hW'
  refine ((fnl a0 a1 ).law (W := W) (args := #[v0, v1]) rfl (fun j hj => ?_) hG).mono fun e W' ⟨he, hb⟩ => ?_
  · match j, hj with
    | 0, _ => exact e0
    | 1, _ => exact e1
  · subst he
    exact ⟨_, rfl, post_law (pa := p0 ++ p1) (pv := []) hW' (fun _ _ _ => trodAll_mk1 (shut_bool Tryz.underlying4 true)) (fun sp hsp => trodAll_stays laidOut hb reads hA hlt (fun p hp => hsp p (by simpa using hp))) (fun _ _ => rfl) (by simp) hb (ok_one (by kernel_rfl) rfl (okWide_bool_mk Tryz.underlying4 _))⟩
theorem row_holds : Rows.RestoreTextsSaid :=
  OpenClaim.holds_of_wide 5 Tryz.f5 rfl rfl rfl rfl rfl rfl rfl ⟨rfl, rfl, rfl, rfl, rfl⟩ rfl rfl rfl rfl rfl (by kernel_rfl) Tryz.func5 (by kernel_rfl)
    (of_decide_eq_true (by kernel_rfl)) (by unfold Func.isWrapper; first | (rw [if_pos (by decide +kernel)]; kernel_rfl) | (rw [if_neg (by decide +kernel)]; exact ⟨rfl, rfl⟩))
    (fun os started H enc _ => lifted os started H enc)
theorem over : Rows.RestoreTextsCardSaid :=
  Claim7.holds_tied_plain_at .later [] [.data, .data, .data, .data, .sentinel, .sentinel, .pinned] true (true, "62bdd87f2284b77493e48e1a21c5c4d527b10d9fb4d87f923873359c08f07171") true row_holds (fun _ h => by cases h) (by kernel_rfl) (fun _ h => by cases h) restoreTexts_row_tie rfl ⟨rfl, rfl⟩ (by kernel_rfl) rfl
    (fun f fn hf hfn => by
      obtain rfl : f = 5 := Option.some.inj ((show Tryz.prog.funcNamed "agraffe/agraffelaw08.RestoreTexts" = some 5 by kernel_rfl).symm.trans hf) |>.symm
      obtain rfl : fn = Tryz.f5 := (Option.some.inj (Tryz.func5.symm.trans hfn)).symm
      exact ⟨by kernel_rfl, fun j t ht => by
        rw [Tryz.params5] at ht
        have hm : t ∈ [46, 9] := by simpa using Array.mem_of_getElem? ht
        have hall : ([46, 9].all fun u => !Tryz.prog.wantsStandIn u) = true := by kernel_rfl
        exact (show Tryz.prog.wantsStandIn t = false by simpa using List.all_eq_true.1 hall t hm)⟩)
    (by kernel_rfl)
end Go.Proofs.YtchkkpbkgghcoaaGreatDoor.As
