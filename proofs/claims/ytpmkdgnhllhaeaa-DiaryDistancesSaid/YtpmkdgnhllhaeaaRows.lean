/-
  No cell of these rows narrows 'for every input' (looked for: loops, veiled, ifaces, maps, wideKeys, modest, calm, conditions, laid).
  DERIVED. THE GIVEN ROWS OF THIS SEAT. 10 by the template 'for every input the law returns true; each argument reads behind the call as it read before'; 0 by the template 'total and deterministic' (their statements: YtpmkdgnhllhaeaaTotals.lean).
  GIVEN WITH THE SEED: the statements are not yours to turn. If you find one false, say at which input.
  Laid BY PROGRAM, IN A SANDBOX (cutbox-rows.mjs): the forced cells as the released guide's own fill.sh prints them over the translation b3c0b7203ac97ce1… (all of the seat's roots in one cut). By AI agents, Wed Nov 11 2026. No macro, syntax, notation, axiom, sorry.
-/
import Derived.Test.YtpmkdgnhllhaeaaChecked
import GoSem.Claim
import GoSem.ClaimJoined
import GoSem.ClaimMapViews
import Derived.JoinedTies
import Derived.KernelRfl
namespace Go.Proofs.Ytpmkdgnhllhaeaa
/- THE CELL 'sum', in the pinned program and in every row, IS THE sha256 OF THE DUMP (.gsa) THAT YtpmkdgnhllhaeaaProg.lean LOADS. Nothing in Lean hashes anything: it is a label: what it is worth is what the hold of that sum in a sandbox is worth. -/
noncomputable def Try.pinned : Pinned := { name := "ytpmkdgnhllhaeaa", sum := "b3c0b7203ac97ce1ee6cea604d73607c36a53218ccfbe05cf23d2e0d8c895e41", checked := Try.checked }
namespace Rows
def none {H : Type} : Left H := { results := [], args := [] }

/-- 'agraffelaw09.DiaryChecks': WHATEVER THE INPUT: true; the input reads as it did. -/
def diaryChecksSpec : ChangeSpec := { name := "diaryChecks", fn := fun _ => fun
  | [d1, d2] => { results := [.lit (.bool true)], args := [d1, d2] }
  | _ => none }
def diaryChecksRow : OpenClaim := { program := "ytpmkdgnhllhaeaa", sum := "b3c0b7203ac97ce1ee6cea604d73607c36a53218ccfbe05cf23d2e0d8c895e41", func := "agraffe/agraffelaw09.DiaryChecks", spec := "diaryChecks", inPlace := ["slices.overlaps[agraffe/api.Item]"], unfollowed := true, recurses := true, plainKeys := false, apart := false }
def DiaryChecksSaid : Prop := diaryChecksRow.holds Try.pinned (OpenSpec.ofChange diaryChecksSpec)

/-- ITS FALSE NEIGHBOUR: 'it returns false'. Refute it at one input. -/
def diaryChecksWrong : ChangeSpec := { name := "diaryChecks", fn := fun _ => fun
  | [d1, d2] => { results := [.lit (.bool false)], args := [d1, d2] }
  | _ => none }
def DiaryChecksWrongFalsely : Prop := diaryChecksRow.holds Try.pinned (OpenSpec.ofChange diaryChecksWrong)

/-- 'agraffelaw09.DiaryApart': WHATEVER THE INPUT: true; the input reads as it did. -/
def diaryApartSpec : ChangeSpec := { name := "diaryApart", fn := fun _ => fun
  | [d1, d2, d3] => { results := [.lit (.bool true)], args := [d1, d2, d3] }
  | _ => none }
def diaryApartRow : OpenClaim := { program := "ytpmkdgnhllhaeaa", sum := "b3c0b7203ac97ce1ee6cea604d73607c36a53218ccfbe05cf23d2e0d8c895e41", func := "agraffe/agraffelaw09.DiaryApart", spec := "diaryApart", inPlace := ["slices.overlaps[agraffe/api.Item]"], unfollowed := true, recurses := true, plainKeys := false, apart := false }
def DiaryApartSaid : Prop := diaryApartRow.holds Try.pinned (OpenSpec.ofChange diaryApartSpec)

/-- ITS FALSE NEIGHBOUR: 'it returns false'. Refute it at one input. -/
def diaryApartWrong : ChangeSpec := { name := "diaryApart", fn := fun _ => fun
  | [d1, d2, d3] => { results := [.lit (.bool false)], args := [d1, d2, d3] }
  | _ => none }
def DiaryApartWrongFalsely : Prop := diaryApartRow.holds Try.pinned (OpenSpec.ofChange diaryApartWrong)

/-- 'agraffelaw09.DiaryRouteChecks': WHATEVER THE INPUT: true; the input reads as it did. -/
def diaryRouteChecksSpec : ChangeSpec := { name := "diaryRouteChecks", fn := fun _ => fun
  | [d1, d2, d3] => { results := [.lit (.bool true)], args := [d1, d2, d3] }
  | _ => none }
def diaryRouteChecksRow : OpenClaim := { program := "ytpmkdgnhllhaeaa", sum := "b3c0b7203ac97ce1ee6cea604d73607c36a53218ccfbe05cf23d2e0d8c895e41", func := "agraffe/agraffelaw09.DiaryRouteChecks", spec := "diaryRouteChecks", inPlace := ["slices.overlaps[agraffe/api.Item]"], unfollowed := true, recurses := true, plainKeys := false, apart := false }
def DiaryRouteChecksSaid : Prop := diaryRouteChecksRow.holds Try.pinned (OpenSpec.ofChange diaryRouteChecksSpec)

/-- ITS FALSE NEIGHBOUR: 'it returns false'. Refute it at one input. -/
def diaryRouteChecksWrong : ChangeSpec := { name := "diaryRouteChecks", fn := fun _ => fun
  | [d1, d2, d3] => { results := [.lit (.bool false)], args := [d1, d2, d3] }
  | _ => none }
def DiaryRouteChecksWrongFalsely : Prop := diaryRouteChecksRow.holds Try.pinned (OpenSpec.ofChange diaryRouteChecksWrong)

/-- 'agraffelaw09.DiaryDistances': WHATEVER THE INPUT: true; the input reads as it did. -/
def diaryDistancesSpec : ChangeSpec := { name := "diaryDistances", fn := fun _ => fun
  | [d1, d2, d3] => { results := [.lit (.bool true)], args := [d1, d2, d3] }
  | _ => none }
def diaryDistancesRow : OpenClaim := { program := "ytpmkdgnhllhaeaa", sum := "b3c0b7203ac97ce1ee6cea604d73607c36a53218ccfbe05cf23d2e0d8c895e41", func := "agraffe/agraffelaw09.DiaryDistances", spec := "diaryDistances", inPlace := ["slices.overlaps[agraffe/api.Item]"], unfollowed := true, recurses := true, plainKeys := false, apart := false }
def DiaryDistancesSaid : Prop := diaryDistancesRow.holds Try.pinned (OpenSpec.ofChange diaryDistancesSpec)

/-- ITS FALSE NEIGHBOUR: 'it returns false'. Refute it at one input. -/
def diaryDistancesWrong : ChangeSpec := { name := "diaryDistances", fn := fun _ => fun
  | [d1, d2, d3] => { results := [.lit (.bool false)], args := [d1, d2, d3] }
  | _ => none }
def DiaryDistancesWrongFalsely : Prop := diaryDistancesRow.holds Try.pinned (OpenSpec.ofChange diaryDistancesWrong)

/-- 'agraffelaw09.DiaryWindows': WHATEVER THE INPUT: true; the input reads as it did. -/
def diaryWindowsSpec : ChangeSpec := { name := "diaryWindows", fn := fun _ => fun
  | [d] => { results := [.lit (.bool true)], args := [d] }
  | _ => none }
def diaryWindowsRow : OpenClaim := { program := "ytpmkdgnhllhaeaa", sum := "b3c0b7203ac97ce1ee6cea604d73607c36a53218ccfbe05cf23d2e0d8c895e41", func := "agraffe/agraffelaw09.DiaryWindows", spec := "diaryWindows", inPlace := ["slices.overlaps[agraffe/api.Item]"], unfollowed := true, recurses := true, plainKeys := false, apart := false }
def DiaryWindowsSaid : Prop := diaryWindowsRow.holds Try.pinned (OpenSpec.ofChange diaryWindowsSpec)

/-- ITS FALSE NEIGHBOUR: 'it returns false'. Refute it at one input. -/
def diaryWindowsWrong : ChangeSpec := { name := "diaryWindows", fn := fun _ => fun
  | [d] => { results := [.lit (.bool false)], args := [d] }
  | _ => none }
def DiaryWindowsWrongFalsely : Prop := diaryWindowsRow.holds Try.pinned (OpenSpec.ofChange diaryWindowsWrong)

/-- 'agraffelaw09.DiarySlots': WHATEVER THE INPUT: true; the input reads as it did. -/
def diarySlotsSpec : ChangeSpec := { name := "diarySlots", fn := fun _ => fun
  | [d1, d2, d3] => { results := [.lit (.bool true)], args := [d1, d2, d3] }
  | _ => none }
def diarySlotsRow : OpenClaim := { program := "ytpmkdgnhllhaeaa", sum := "b3c0b7203ac97ce1ee6cea604d73607c36a53218ccfbe05cf23d2e0d8c895e41", func := "agraffe/agraffelaw09.DiarySlots", spec := "diarySlots", inPlace := ["slices.overlaps[agraffe/api.Item]"], unfollowed := true, recurses := true, plainKeys := false, apart := false }
def DiarySlotsSaid : Prop := diarySlotsRow.holds Try.pinned (OpenSpec.ofChange diarySlotsSpec)

/-- ITS FALSE NEIGHBOUR: 'it returns false'. Refute it at one input. -/
def diarySlotsWrong : ChangeSpec := { name := "diarySlots", fn := fun _ => fun
  | [d1, d2, d3] => { results := [.lit (.bool false)], args := [d1, d2, d3] }
  | _ => none }
def DiarySlotsWrongFalsely : Prop := diarySlotsRow.holds Try.pinned (OpenSpec.ofChange diarySlotsWrong)

/-- 'agraffelaw09.DiaryHall': WHATEVER THE INPUT: true; the input reads as it did. -/
def diaryHallSpec : ChangeSpec := { name := "diaryHall", fn := fun _ => fun
  | [d1, d2, d3] => { results := [.lit (.bool true)], args := [d1, d2, d3] }
  | _ => none }
def diaryHallRow : OpenClaim := { program := "ytpmkdgnhllhaeaa", sum := "b3c0b7203ac97ce1ee6cea604d73607c36a53218ccfbe05cf23d2e0d8c895e41", func := "agraffe/agraffelaw09.DiaryHall", spec := "diaryHall", inPlace := ["slices.overlaps[agraffe/api.Item]"], unfollowed := true, recurses := true, plainKeys := false, apart := false }
def DiaryHallSaid : Prop := diaryHallRow.holds Try.pinned (OpenSpec.ofChange diaryHallSpec)

/-- ITS FALSE NEIGHBOUR: 'it returns false'. Refute it at one input. -/
def diaryHallWrong : ChangeSpec := { name := "diaryHall", fn := fun _ => fun
  | [d1, d2, d3] => { results := [.lit (.bool false)], args := [d1, d2, d3] }
  | _ => none }
def DiaryHallWrongFalsely : Prop := diaryHallRow.holds Try.pinned (OpenSpec.ofChange diaryHallWrong)

/-- 'agraffetop.TopTunedConcerts': WHATEVER THE INPUT: true; the input reads as it did. -/
def topTunedConcertsSpec : ChangeSpec := { name := "topTunedConcerts", fn := fun _ => fun
  | [d1, d2, d3] => { results := [.lit (.bool true)], args := [d1, d2, d3] }
  | _ => none }
def topTunedConcertsRow : OpenClaim := { program := "ytpmkdgnhllhaeaa", sum := "b3c0b7203ac97ce1ee6cea604d73607c36a53218ccfbe05cf23d2e0d8c895e41", func := "agraffe/agraffetop.TopTunedConcerts", spec := "topTunedConcerts", unfollowed := true, recurses := true, plainKeys := false, apart := false }
def TopTunedConcertsSaid : Prop := topTunedConcertsRow.holds Try.pinned (OpenSpec.ofChange topTunedConcertsSpec)

/-- ITS FALSE NEIGHBOUR: 'it returns false'. Refute it at one input. -/
def topTunedConcertsWrong : ChangeSpec := { name := "topTunedConcerts", fn := fun _ => fun
  | [d1, d2, d3] => { results := [.lit (.bool false)], args := [d1, d2, d3] }
  | _ => none }
def TopTunedConcertsWrongFalsely : Prop := topTunedConcertsRow.holds Try.pinned (OpenSpec.ofChange topTunedConcertsWrong)

/-- 'agraffetop.TopOnePlace': WHATEVER THE INPUT: true; the input reads as it did. -/
def topOnePlaceSpec : ChangeSpec := { name := "topOnePlace", fn := fun _ => fun
  | [d1, d2] => { results := [.lit (.bool true)], args := [d1, d2] }
  | _ => none }
def topOnePlaceRow : OpenClaim := { program := "ytpmkdgnhllhaeaa", sum := "b3c0b7203ac97ce1ee6cea604d73607c36a53218ccfbe05cf23d2e0d8c895e41", func := "agraffe/agraffetop.TopOnePlace", spec := "topOnePlace", unfollowed := true, recurses := true, plainKeys := false, apart := false }
def TopOnePlaceSaid : Prop := topOnePlaceRow.holds Try.pinned (OpenSpec.ofChange topOnePlaceSpec)

/-- ITS FALSE NEIGHBOUR: 'it returns false'. Refute it at one input. -/
def topOnePlaceWrong : ChangeSpec := { name := "topOnePlace", fn := fun _ => fun
  | [d1, d2] => { results := [.lit (.bool false)], args := [d1, d2] }
  | _ => none }
def TopOnePlaceWrongFalsely : Prop := topOnePlaceRow.holds Try.pinned (OpenSpec.ofChange topOnePlaceWrong)

/-- 'agraffetop.TopAddCancel': WHATEVER THE INPUT: true; the input reads as it did. -/
def topAddCancelSpec : ChangeSpec := { name := "topAddCancel", fn := fun _ => fun
  | [d1, d2, d3] => { results := [.lit (.bool true)], args := [d1, d2, d3] }
  | _ => none }
def topAddCancelRow : OpenClaim := { program := "ytpmkdgnhllhaeaa", sum := "b3c0b7203ac97ce1ee6cea604d73607c36a53218ccfbe05cf23d2e0d8c895e41", func := "agraffe/agraffetop.TopAddCancel", spec := "topAddCancel", inPlace := ["slices.overlaps[agraffe/api.Item]"], unfollowed := true, recurses := true, plainKeys := false, apart := false }
def TopAddCancelSaid : Prop := topAddCancelRow.holds Try.pinned (OpenSpec.ofChange topAddCancelSpec)

/-- ITS FALSE NEIGHBOUR: 'it returns false'. Refute it at one input. -/
def topAddCancelWrong : ChangeSpec := { name := "topAddCancel", fn := fun _ => fun
  | [d1, d2, d3] => { results := [.lit (.bool false)], args := [d1, d2, d3] }
  | _ => none }
def TopAddCancelWrongFalsely : Prop := topAddCancelRow.holds Try.pinned (OpenSpec.ofChange topAddCancelWrong)

/- THE SECOND FORM. 'bulk': how many values and letters a reading holds, each counted each time it is reached (what is shared counts as often as it is met; a slice's spare places count too). A statement '..UptoSaid' is the law's where the arguments, and the package variables that the reading takes, are together of bulk at most 1048576: NARROWER than '..Said'. Prove '..Said' where nothing that the law and all that it calls make is longer than what came in: it says more and counts as full. Else prove '..UptoSaid'. A law counts once. -/
mutual
def uptoBulk {H : Type} : DataW H → Nat
  | .lit (.string bytes) => bytes.length + 1
  | .lit _ => 1
  | .nil => 1
  | .ptr d => uptoBulk d + 1
  | .slice elems spare => uptoBulkAll elems + uptoBulkAll spare + 1
  | .agg parts => uptoBulkAll parts + 1
  | .iface _ d => uptoBulk d + 1
  | .map entries => uptoBulkEntries entries + 1
  | .held _ => 1
def uptoBulkAll {H : Type} : List (DataW H) → Nat
  | [] => 0
  | d :: r => uptoBulk d + uptoBulkAll r
def uptoBulkEntries {H : Type} : List (Lit × DataW H) → Nat
  | [] => 0
  | x :: r => uptoBulkEntry x + uptoBulkEntries r
def uptoBulkEntry {H : Type} : Lit × DataW H → Nat
  | (.string bytes, d) => bytes.length + uptoBulk d + 1
  | (_, d) => uptoBulk d + 1
 end
def uptoSmall : (H : Type) → List (DataW H) → Bool := fun _ ds => decide (uptoBulkAll ds ≤ 1048576)
def OpenSpec.upto (s : _root_.Go.ChangeSpec) : _root_.Go.OpenSpec := { _root_.Go.OpenSpec.ofChange s with cond := some uptoSmall }

/-- 'agraffelaw09.DiaryChecks', WHERE WHAT IT READS IS OF BULK AT MOST 1048576: true; the input reads as it did. -/
def diaryChecksUptoRow : OpenClaim := { program := "ytpmkdgnhllhaeaa", sum := "b3c0b7203ac97ce1ee6cea604d73607c36a53218ccfbe05cf23d2e0d8c895e41", func := "agraffe/agraffelaw09.DiaryChecks", spec := "diaryChecks", inPlace := ["slices.overlaps[agraffe/api.Item]"], unfollowed := true, recurses := true, plainKeys := false, apart := false, narrowed := true }
def DiaryChecksUptoSaid : Prop := diaryChecksUptoRow.holds Try.pinned (OpenSpec.upto diaryChecksSpec)

/-- 'agraffelaw09.DiaryApart', WHERE WHAT IT READS IS OF BULK AT MOST 1048576: true; the input reads as it did. -/
def diaryApartUptoRow : OpenClaim := { program := "ytpmkdgnhllhaeaa", sum := "b3c0b7203ac97ce1ee6cea604d73607c36a53218ccfbe05cf23d2e0d8c895e41", func := "agraffe/agraffelaw09.DiaryApart", spec := "diaryApart", inPlace := ["slices.overlaps[agraffe/api.Item]"], unfollowed := true, recurses := true, plainKeys := false, apart := false, narrowed := true }
def DiaryApartUptoSaid : Prop := diaryApartUptoRow.holds Try.pinned (OpenSpec.upto diaryApartSpec)

/-- 'agraffelaw09.DiaryRouteChecks', WHERE WHAT IT READS IS OF BULK AT MOST 1048576: true; the input reads as it did. -/
def diaryRouteChecksUptoRow : OpenClaim := { program := "ytpmkdgnhllhaeaa", sum := "b3c0b7203ac97ce1ee6cea604d73607c36a53218ccfbe05cf23d2e0d8c895e41", func := "agraffe/agraffelaw09.DiaryRouteChecks", spec := "diaryRouteChecks", inPlace := ["slices.overlaps[agraffe/api.Item]"], unfollowed := true, recurses := true, plainKeys := false, apart := false, narrowed := true }
def DiaryRouteChecksUptoSaid : Prop := diaryRouteChecksUptoRow.holds Try.pinned (OpenSpec.upto diaryRouteChecksSpec)

/-- 'agraffelaw09.DiaryDistances', WHERE WHAT IT READS IS OF BULK AT MOST 1048576: true; the input reads as it did. -/
def diaryDistancesUptoRow : OpenClaim := { program := "ytpmkdgnhllhaeaa", sum := "b3c0b7203ac97ce1ee6cea604d73607c36a53218ccfbe05cf23d2e0d8c895e41", func := "agraffe/agraffelaw09.DiaryDistances", spec := "diaryDistances", inPlace := ["slices.overlaps[agraffe/api.Item]"], unfollowed := true, recurses := true, plainKeys := false, apart := false, narrowed := true }
def DiaryDistancesUptoSaid : Prop := diaryDistancesUptoRow.holds Try.pinned (OpenSpec.upto diaryDistancesSpec)

/-- 'agraffelaw09.DiaryWindows', WHERE WHAT IT READS IS OF BULK AT MOST 1048576: true; the input reads as it did. -/
def diaryWindowsUptoRow : OpenClaim := { program := "ytpmkdgnhllhaeaa", sum := "b3c0b7203ac97ce1ee6cea604d73607c36a53218ccfbe05cf23d2e0d8c895e41", func := "agraffe/agraffelaw09.DiaryWindows", spec := "diaryWindows", inPlace := ["slices.overlaps[agraffe/api.Item]"], unfollowed := true, recurses := true, plainKeys := false, apart := false, narrowed := true }
def DiaryWindowsUptoSaid : Prop := diaryWindowsUptoRow.holds Try.pinned (OpenSpec.upto diaryWindowsSpec)

/-- 'agraffelaw09.DiarySlots', WHERE WHAT IT READS IS OF BULK AT MOST 1048576: true; the input reads as it did. -/
def diarySlotsUptoRow : OpenClaim := { program := "ytpmkdgnhllhaeaa", sum := "b3c0b7203ac97ce1ee6cea604d73607c36a53218ccfbe05cf23d2e0d8c895e41", func := "agraffe/agraffelaw09.DiarySlots", spec := "diarySlots", inPlace := ["slices.overlaps[agraffe/api.Item]"], unfollowed := true, recurses := true, plainKeys := false, apart := false, narrowed := true }
def DiarySlotsUptoSaid : Prop := diarySlotsUptoRow.holds Try.pinned (OpenSpec.upto diarySlotsSpec)

/-- 'agraffelaw09.DiaryHall', WHERE WHAT IT READS IS OF BULK AT MOST 1048576: true; the input reads as it did. -/
def diaryHallUptoRow : OpenClaim := { program := "ytpmkdgnhllhaeaa", sum := "b3c0b7203ac97ce1ee6cea604d73607c36a53218ccfbe05cf23d2e0d8c895e41", func := "agraffe/agraffelaw09.DiaryHall", spec := "diaryHall", inPlace := ["slices.overlaps[agraffe/api.Item]"], unfollowed := true, recurses := true, plainKeys := false, apart := false, narrowed := true }
def DiaryHallUptoSaid : Prop := diaryHallUptoRow.holds Try.pinned (OpenSpec.upto diaryHallSpec)

/-- 'agraffetop.TopTunedConcerts', WHERE WHAT IT READS IS OF BULK AT MOST 1048576: true; the input reads as it did. -/
def topTunedConcertsUptoRow : OpenClaim := { program := "ytpmkdgnhllhaeaa", sum := "b3c0b7203ac97ce1ee6cea604d73607c36a53218ccfbe05cf23d2e0d8c895e41", func := "agraffe/agraffetop.TopTunedConcerts", spec := "topTunedConcerts", unfollowed := true, recurses := true, plainKeys := false, apart := false, narrowed := true }
def TopTunedConcertsUptoSaid : Prop := topTunedConcertsUptoRow.holds Try.pinned (OpenSpec.upto topTunedConcertsSpec)

/-- 'agraffetop.TopOnePlace', WHERE WHAT IT READS IS OF BULK AT MOST 1048576: true; the input reads as it did. -/
def topOnePlaceUptoRow : OpenClaim := { program := "ytpmkdgnhllhaeaa", sum := "b3c0b7203ac97ce1ee6cea604d73607c36a53218ccfbe05cf23d2e0d8c895e41", func := "agraffe/agraffetop.TopOnePlace", spec := "topOnePlace", unfollowed := true, recurses := true, plainKeys := false, apart := false, narrowed := true }
def TopOnePlaceUptoSaid : Prop := topOnePlaceUptoRow.holds Try.pinned (OpenSpec.upto topOnePlaceSpec)

/-- 'agraffetop.TopAddCancel', WHERE WHAT IT READS IS OF BULK AT MOST 1048576: true; the input reads as it did. -/
def topAddCancelUptoRow : OpenClaim := { program := "ytpmkdgnhllhaeaa", sum := "b3c0b7203ac97ce1ee6cea604d73607c36a53218ccfbe05cf23d2e0d8c895e41", func := "agraffe/agraffetop.TopAddCancel", spec := "topAddCancel", inPlace := ["slices.overlaps[agraffe/api.Item]"], unfollowed := true, recurses := true, plainKeys := false, apart := false, narrowed := true }
def TopAddCancelUptoSaid : Prop := topAddCancelUptoRow.holds Try.pinned (OpenSpec.upto topAddCancelSpec)

end Rows
end Go.Proofs.Ytpmkdgnhllhaeaa
