/-
  No cell of these rows narrows 'for every input' (looked for: loops, veiled, ifaces, maps, wideKeys, modest, calm, conditions, laid).
  DERIVED. THE GIVEN ROWS OF THIS SEAT. 7 by the template 'for every input the law returns true; each argument reads behind the call as it read before'; 0 by the template 'total and deterministic' (their statements: YtpmkdgnhllhaeaaGreatTotals.lean).
  GIVEN WITH THE SEED: the statements are not yours to turn. If you find one false, say at which input.
  Laid BY PROGRAM, IN A SANDBOX (cutbox-rows.mjs): the forced cells as the released guide's own fill.sh prints them over the translation d24a901ede216ea4… (all of the seat's roots in one cut). By AI agents, Wed Nov 11 2026. No macro, syntax, notation, axiom, sorry.
-/
import Derived.Test.YtpmkdgnhllhaeaaGreatChecked
import GoSem.Claim
import GoSem.ClaimJoined
import GoSem.ClaimMapViews
import Derived.JoinedTies
import Derived.KernelRfl
namespace Go.Proofs.YtpmkdgnhllhaeaaGreat
/- THE CELL 'sum', in the pinned program and in every row, IS THE sha256 OF THE DUMP (.gsa) THAT YtpmkdgnhllhaeaaGreatProg.lean LOADS. Nothing in Lean hashes anything: it is a label: what it is worth is what the hold of that sum in a sandbox is worth. -/
noncomputable def Tryz.pinned : Pinned := { name := "ytpmkdgnhllhaeaagreat", sum := "d24a901ede216ea40a6e0a63bb801acde4ddc699a9fb3af2521d9a53d55af266", checked := Tryz.checked }
namespace Rows
def none {H : Type} : Left H := { results := [], args := [] }

/-- 'agraffelaw09.DiaryAccepts': WHATEVER THE INPUT: true; the input reads as it did. -/
def diaryAcceptsSpec : ChangeSpec := { name := "diaryAccepts", fn := fun _ => fun
  | [d1, d2] => { results := [.lit (.bool true)], args := [d1, d2] }
  | _ => none }
def diaryAcceptsRow : OpenClaim := { program := "ytpmkdgnhllhaeaagreat", sum := "d24a901ede216ea40a6e0a63bb801acde4ddc699a9fb3af2521d9a53d55af266", func := "agraffe/agraffelaw09.DiaryAccepts", spec := "diaryAccepts", inPlace := ["slices.overlaps[agraffe/api.Item]"], unfollowed := true, recurses := true, plainKeys := false, apart := false }
def DiaryAcceptsSaid : Prop := diaryAcceptsRow.holds Tryz.pinned (OpenSpec.ofChange diaryAcceptsSpec)

/-- ITS FALSE NEIGHBOUR: 'it returns false'. Refute it at one input. -/
def diaryAcceptsWrong : ChangeSpec := { name := "diaryAccepts", fn := fun _ => fun
  | [d1, d2] => { results := [.lit (.bool false)], args := [d1, d2] }
  | _ => none }
def DiaryAcceptsWrongFalsely : Prop := diaryAcceptsRow.holds Tryz.pinned (OpenSpec.ofChange diaryAcceptsWrong)

/-- 'agraffelaw09.DiaryFrees': WHATEVER THE INPUT: true; the input reads as it did. -/
def diaryFreesSpec : ChangeSpec := { name := "diaryFrees", fn := fun _ => fun
  | [d1, d2, d3] => { results := [.lit (.bool true)], args := [d1, d2, d3] }
  | _ => none }
def diaryFreesRow : OpenClaim := { program := "ytpmkdgnhllhaeaagreat", sum := "d24a901ede216ea40a6e0a63bb801acde4ddc699a9fb3af2521d9a53d55af266", func := "agraffe/agraffelaw09.DiaryFrees", spec := "diaryFrees", inPlace := ["slices.overlaps[agraffe/api.Item]"], unfollowed := true, recurses := true, plainKeys := false, apart := false }
def DiaryFreesSaid : Prop := diaryFreesRow.holds Tryz.pinned (OpenSpec.ofChange diaryFreesSpec)

/-- ITS FALSE NEIGHBOUR: 'it returns false'. Refute it at one input. -/
def diaryFreesWrong : ChangeSpec := { name := "diaryFrees", fn := fun _ => fun
  | [d1, d2, d3] => { results := [.lit (.bool false)], args := [d1, d2, d3] }
  | _ => none }
def DiaryFreesWrongFalsely : Prop := diaryFreesRow.holds Tryz.pinned (OpenSpec.ofChange diaryFreesWrong)

/-- 'agraffelaw09.DiaryAdds': WHATEVER THE INPUT: true; the input reads as it did. -/
def diaryAddsSpec : ChangeSpec := { name := "diaryAdds", fn := fun _ => fun
  | [d1, d2, d3] => { results := [.lit (.bool true)], args := [d1, d2, d3] }
  | _ => none }
def diaryAddsRow : OpenClaim := { program := "ytpmkdgnhllhaeaagreat", sum := "d24a901ede216ea40a6e0a63bb801acde4ddc699a9fb3af2521d9a53d55af266", func := "agraffe/agraffelaw09.DiaryAdds", spec := "diaryAdds", inPlace := ["slices.overlaps[agraffe/api.Item]"], unfollowed := true, recurses := true, plainKeys := false, apart := false }
def DiaryAddsSaid : Prop := diaryAddsRow.holds Tryz.pinned (OpenSpec.ofChange diaryAddsSpec)

/-- ITS FALSE NEIGHBOUR: 'it returns false'. Refute it at one input. -/
def diaryAddsWrong : ChangeSpec := { name := "diaryAdds", fn := fun _ => fun
  | [d1, d2, d3] => { results := [.lit (.bool false)], args := [d1, d2, d3] }
  | _ => none }
def DiaryAddsWrongFalsely : Prop := diaryAddsRow.holds Tryz.pinned (OpenSpec.ofChange diaryAddsWrong)

/-- 'agraffelaw09.DiaryTunings': WHATEVER THE INPUT: true; the input reads as it did. -/
def diaryTuningsSpec : ChangeSpec := { name := "diaryTunings", fn := fun _ => fun
  | [d1, d2, d3] => { results := [.lit (.bool true)], args := [d1, d2, d3] }
  | _ => none }
def diaryTuningsRow : OpenClaim := { program := "ytpmkdgnhllhaeaagreat", sum := "d24a901ede216ea40a6e0a63bb801acde4ddc699a9fb3af2521d9a53d55af266", func := "agraffe/agraffelaw09.DiaryTunings", spec := "diaryTunings", inPlace := ["slices.overlaps[agraffe/api.Item]"], unfollowed := true, recurses := true, plainKeys := false, apart := false }
def DiaryTuningsSaid : Prop := diaryTuningsRow.holds Tryz.pinned (OpenSpec.ofChange diaryTuningsSpec)

/-- ITS FALSE NEIGHBOUR: 'it returns false'. Refute it at one input. -/
def diaryTuningsWrong : ChangeSpec := { name := "diaryTunings", fn := fun _ => fun
  | [d1, d2, d3] => { results := [.lit (.bool false)], args := [d1, d2, d3] }
  | _ => none }
def DiaryTuningsWrongFalsely : Prop := diaryTuningsRow.holds Tryz.pinned (OpenSpec.ofChange diaryTuningsWrong)

/-- 'agraffelaw09.DiaryCancels': WHATEVER THE INPUT: true; the input reads as it did. -/
def diaryCancelsSpec : ChangeSpec := { name := "diaryCancels", fn := fun _ => fun
  | [d1, d2, d3] => { results := [.lit (.bool true)], args := [d1, d2, d3] }
  | _ => none }
def diaryCancelsRow : OpenClaim := { program := "ytpmkdgnhllhaeaagreat", sum := "d24a901ede216ea40a6e0a63bb801acde4ddc699a9fb3af2521d9a53d55af266", func := "agraffe/agraffelaw09.DiaryCancels", spec := "diaryCancels", inPlace := ["slices.overlaps[agraffe/api.Item]"], unfollowed := true, recurses := true, plainKeys := false, apart := false }
def DiaryCancelsSaid : Prop := diaryCancelsRow.holds Tryz.pinned (OpenSpec.ofChange diaryCancelsSpec)

/-- ITS FALSE NEIGHBOUR: 'it returns false'. Refute it at one input. -/
def diaryCancelsWrong : ChangeSpec := { name := "diaryCancels", fn := fun _ => fun
  | [d1, d2, d3] => { results := [.lit (.bool false)], args := [d1, d2, d3] }
  | _ => none }
def DiaryCancelsWrongFalsely : Prop := diaryCancelsRow.holds Tryz.pinned (OpenSpec.ofChange diaryCancelsWrong)

/-- 'agraffelaw09.DiaryRoutes': WHATEVER THE INPUT: true; the input reads as it did. -/
def diaryRoutesSpec : ChangeSpec := { name := "diaryRoutes", fn := fun _ => fun
  | [d1, d2, d3] => { results := [.lit (.bool true)], args := [d1, d2, d3] }
  | _ => none }
def diaryRoutesRow : OpenClaim := { program := "ytpmkdgnhllhaeaagreat", sum := "d24a901ede216ea40a6e0a63bb801acde4ddc699a9fb3af2521d9a53d55af266", func := "agraffe/agraffelaw09.DiaryRoutes", spec := "diaryRoutes", inPlace := ["slices.overlaps[agraffe/api.Item]"], unfollowed := true, recurses := true, plainKeys := false, apart := false }
def DiaryRoutesSaid : Prop := diaryRoutesRow.holds Tryz.pinned (OpenSpec.ofChange diaryRoutesSpec)

/-- ITS FALSE NEIGHBOUR: 'it returns false'. Refute it at one input. -/
def diaryRoutesWrong : ChangeSpec := { name := "diaryRoutes", fn := fun _ => fun
  | [d1, d2, d3] => { results := [.lit (.bool false)], args := [d1, d2, d3] }
  | _ => none }
def DiaryRoutesWrongFalsely : Prop := diaryRoutesRow.holds Tryz.pinned (OpenSpec.ofChange diaryRoutesWrong)

/-- 'agraffelaw09.DiaryPlaces': WHATEVER THE INPUT: true; the input reads as it did. -/
def diaryPlacesSpec : ChangeSpec := { name := "diaryPlaces", fn := fun _ => fun
  | [d1, d2, d3] => { results := [.lit (.bool true)], args := [d1, d2, d3] }
  | _ => none }
def diaryPlacesRow : OpenClaim := { program := "ytpmkdgnhllhaeaagreat", sum := "d24a901ede216ea40a6e0a63bb801acde4ddc699a9fb3af2521d9a53d55af266", func := "agraffe/agraffelaw09.DiaryPlaces", spec := "diaryPlaces", inPlace := ["slices.overlaps[agraffe/api.Item]"], unfollowed := true, recurses := true, plainKeys := false, apart := false }
def DiaryPlacesSaid : Prop := diaryPlacesRow.holds Tryz.pinned (OpenSpec.ofChange diaryPlacesSpec)

/-- ITS FALSE NEIGHBOUR: 'it returns false'. Refute it at one input. -/
def diaryPlacesWrong : ChangeSpec := { name := "diaryPlaces", fn := fun _ => fun
  | [d1, d2, d3] => { results := [.lit (.bool false)], args := [d1, d2, d3] }
  | _ => none }
def DiaryPlacesWrongFalsely : Prop := diaryPlacesRow.holds Tryz.pinned (OpenSpec.ofChange diaryPlacesWrong)

/- THE SECOND FORM. 'bulk': how many values and letters a reading holds, each counted each time it is reached (what is shared counts as often as it is met; a slice's spare places count too). A statement '..UptoSaid' is the law's where the arguments, and the package variables that the reading takes, are together of bulk at most 1048576: NARROWER than '..Said'. Prove '..Said' where nothing that the law and all that it calls make is longer than what came in: it says more and counts as full. Else prove '..UptoSaid'. A law counts once. -/
mutual
def uptoBulk {H : Type} : DataW H → Nat
  | .lit (.string bytes) => bytes.length + 1
  | .lit _ => 1
  | .nil => 1
  | .ptr d => uptoBulk d + 1
  | .slice elems spare => uptoBulkAll elems + uptoBulkAll spare + 1
  | .agg parts => uptoBulkAll parts + 1
  | .iface _ d => uptoBulk d + 1
  | .map entries => uptoBulkEntries entries + 1
  | .held _ => 1
def uptoBulkAll {H : Type} : List (DataW H) → Nat
  | [] => 0
  | d :: r => uptoBulk d + uptoBulkAll r
def uptoBulkEntries {H : Type} : List (Lit × DataW H) → Nat
  | [] => 0
  | x :: r => uptoBulkEntry x + uptoBulkEntries r
def uptoBulkEntry {H : Type} : Lit × DataW H → Nat
  | (.string bytes, d) => bytes.length + uptoBulk d + 1
  | (_, d) => uptoBulk d + 1
 end
def uptoSmall : (H : Type) → List (DataW H) → Bool := fun _ ds => decide (uptoBulkAll ds ≤ 1048576)
def OpenSpec.upto (s : _root_.Go.ChangeSpec) : _root_.Go.OpenSpec := { _root_.Go.OpenSpec.ofChange s with cond := some uptoSmall }

/-- 'agraffelaw09.DiaryAccepts', WHERE WHAT IT READS IS OF BULK AT MOST 1048576: true; the input reads as it did. -/
def diaryAcceptsUptoRow : OpenClaim := { program := "ytpmkdgnhllhaeaagreat", sum := "d24a901ede216ea40a6e0a63bb801acde4ddc699a9fb3af2521d9a53d55af266", func := "agraffe/agraffelaw09.DiaryAccepts", spec := "diaryAccepts", inPlace := ["slices.overlaps[agraffe/api.Item]"], unfollowed := true, recurses := true, plainKeys := false, apart := false, narrowed := true }
def DiaryAcceptsUptoSaid : Prop := diaryAcceptsUptoRow.holds Tryz.pinned (OpenSpec.upto diaryAcceptsSpec)

/-- 'agraffelaw09.DiaryFrees', WHERE WHAT IT READS IS OF BULK AT MOST 1048576: true; the input reads as it did. -/
def diaryFreesUptoRow : OpenClaim := { program := "ytpmkdgnhllhaeaagreat", sum := "d24a901ede216ea40a6e0a63bb801acde4ddc699a9fb3af2521d9a53d55af266", func := "agraffe/agraffelaw09.DiaryFrees", spec := "diaryFrees", inPlace := ["slices.overlaps[agraffe/api.Item]"], unfollowed := true, recurses := true, plainKeys := false, apart := false, narrowed := true }
def DiaryFreesUptoSaid : Prop := diaryFreesUptoRow.holds Tryz.pinned (OpenSpec.upto diaryFreesSpec)

/-- 'agraffelaw09.DiaryAdds', WHERE WHAT IT READS IS OF BULK AT MOST 1048576: true; the input reads as it did. -/
def diaryAddsUptoRow : OpenClaim := { program := "ytpmkdgnhllhaeaagreat", sum := "d24a901ede216ea40a6e0a63bb801acde4ddc699a9fb3af2521d9a53d55af266", func := "agraffe/agraffelaw09.DiaryAdds", spec := "diaryAdds", inPlace := ["slices.overlaps[agraffe/api.Item]"], unfollowed := true, recurses := true, plainKeys := false, apart := false, narrowed := true }
def DiaryAddsUptoSaid : Prop := diaryAddsUptoRow.holds Tryz.pinned (OpenSpec.upto diaryAddsSpec)

/-- 'agraffelaw09.DiaryTunings', WHERE WHAT IT READS IS OF BULK AT MOST 1048576: true; the input reads as it did. -/
def diaryTuningsUptoRow : OpenClaim := { program := "ytpmkdgnhllhaeaagreat", sum := "d24a901ede216ea40a6e0a63bb801acde4ddc699a9fb3af2521d9a53d55af266", func := "agraffe/agraffelaw09.DiaryTunings", spec := "diaryTunings", inPlace := ["slices.overlaps[agraffe/api.Item]"], unfollowed := true, recurses := true, plainKeys := false, apart := false, narrowed := true }
def DiaryTuningsUptoSaid : Prop := diaryTuningsUptoRow.holds Tryz.pinned (OpenSpec.upto diaryTuningsSpec)

/-- 'agraffelaw09.DiaryCancels', WHERE WHAT IT READS IS OF BULK AT MOST 1048576: true; the input reads as it did. -/
def diaryCancelsUptoRow : OpenClaim := { program := "ytpmkdgnhllhaeaagreat", sum := "d24a901ede216ea40a6e0a63bb801acde4ddc699a9fb3af2521d9a53d55af266", func := "agraffe/agraffelaw09.DiaryCancels", spec := "diaryCancels", inPlace := ["slices.overlaps[agraffe/api.Item]"], unfollowed := true, recurses := true, plainKeys := false, apart := false, narrowed := true }
def DiaryCancelsUptoSaid : Prop := diaryCancelsUptoRow.holds Tryz.pinned (OpenSpec.upto diaryCancelsSpec)

/-- 'agraffelaw09.DiaryRoutes', WHERE WHAT IT READS IS OF BULK AT MOST 1048576: true; the input reads as it did. -/
def diaryRoutesUptoRow : OpenClaim := { program := "ytpmkdgnhllhaeaagreat", sum := "d24a901ede216ea40a6e0a63bb801acde4ddc699a9fb3af2521d9a53d55af266", func := "agraffe/agraffelaw09.DiaryRoutes", spec := "diaryRoutes", inPlace := ["slices.overlaps[agraffe/api.Item]"], unfollowed := true, recurses := true, plainKeys := false, apart := false, narrowed := true }
def DiaryRoutesUptoSaid : Prop := diaryRoutesUptoRow.holds Tryz.pinned (OpenSpec.upto diaryRoutesSpec)

/-- 'agraffelaw09.DiaryPlaces', WHERE WHAT IT READS IS OF BULK AT MOST 1048576: true; the input reads as it did. -/
def diaryPlacesUptoRow : OpenClaim := { program := "ytpmkdgnhllhaeaagreat", sum := "d24a901ede216ea40a6e0a63bb801acde4ddc699a9fb3af2521d9a53d55af266", func := "agraffe/agraffelaw09.DiaryPlaces", spec := "diaryPlaces", inPlace := ["slices.overlaps[agraffe/api.Item]"], unfollowed := true, recurses := true, plainKeys := false, apart := false, narrowed := true }
def DiaryPlacesUptoSaid : Prop := diaryPlacesUptoRow.holds Tryz.pinned (OpenSpec.upto diaryPlacesSpec)

end Rows
end Go.Proofs.YtpmkdgnhllhaeaaGreat
