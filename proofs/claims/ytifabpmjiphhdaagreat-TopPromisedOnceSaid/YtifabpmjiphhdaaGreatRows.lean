/-
  No cell of these rows narrows 'for every input' (looked for: loops, veiled, ifaces, maps, wideKeys, modest, calm, conditions, laid).
  DERIVED. THE GIVEN ROWS OF THIS SEAT. 12 by the template 'for every input the law returns true; each argument reads behind the call as it read before'; 0 by the template 'total and deterministic' (their statements: YtifabpmjiphhdaaGreatTotals.lean).
  GIVEN WITH THE SEED: the statements are not yours to turn. If you find one false, say at which input.
  Laid BY PROGRAM, IN A SANDBOX (cutbox-rows.mjs): the forced cells as the released guide's own fill.sh prints them over the translation 12ddba8340afa44d… (all of the seat's roots in one cut). By AI agents, Wed Nov 11 2026. No macro, syntax, notation, axiom, sorry.
-/
import Derived.Test.YtifabpmjiphhdaaGreatChecked
import GoSem.Claim
import GoSem.ClaimJoined
import GoSem.ClaimMapViews
import Derived.JoinedTies
import Derived.KernelRfl
namespace Go.Proofs.YtifabpmjiphhdaaGreat
/- THE CELL 'sum', in the pinned program and in every row, IS THE sha256 OF THE DUMP (.gsa) THAT YtifabpmjiphhdaaGreatProg.lean LOADS. Nothing in Lean hashes anything: it is a label: what it is worth is what the hold of that sum in a sandbox is worth. -/
noncomputable def Tryz.pinned : Pinned := { name := "ytifabpmjiphhdaagreat", sum := "12ddba8340afa44db54b499b3fba4b36834a6f7491d56d4b70e5914476e085fd", checked := Tryz.checked }
namespace Rows
def none {H : Type} : Left H := { results := [], args := [] }

/-- 'agraffelaw08.RestoreTasks': WHATEVER THE INPUT: true; the input reads as it did. -/
def restoreTasksSpec : ChangeSpec := { name := "restoreTasks", fn := fun _ => fun
  | [d1, d2, d3] => { results := [.lit (.bool true)], args := [d1, d2, d3] }
  | _ => none }
def restoreTasksRow : OpenClaim := { program := "ytifabpmjiphhdaagreat", sum := "12ddba8340afa44db54b499b3fba4b36834a6f7491d56d4b70e5914476e085fd", func := "agraffe/agraffelaw08.RestoreTasks", spec := "restoreTasks", unfollowed := true, recurses := true, apart := false }
def RestoreTasksSaid : Prop := restoreTasksRow.holds Tryz.pinned (OpenSpec.ofChange restoreTasksSpec)

/-- ITS FALSE NEIGHBOUR: 'it returns false'. Refute it at one input. -/
def restoreTasksWrong : ChangeSpec := { name := "restoreTasks", fn := fun _ => fun
  | [d1, d2, d3] => { results := [.lit (.bool false)], args := [d1, d2, d3] }
  | _ => none }
def RestoreTasksWrongFalsely : Prop := restoreTasksRow.holds Tryz.pinned (OpenSpec.ofChange restoreTasksWrong)

/-- 'agraffelaw08.RestoreEstimates': WHATEVER THE INPUT: true; the input reads as it did. -/
def restoreEstimatesSpec : ChangeSpec := { name := "restoreEstimates", fn := fun _ => fun
  | [d1, d2, d3] => { results := [.lit (.bool true)], args := [d1, d2, d3] }
  | _ => none }
def restoreEstimatesRow : OpenClaim := { program := "ytifabpmjiphhdaagreat", sum := "12ddba8340afa44db54b499b3fba4b36834a6f7491d56d4b70e5914476e085fd", func := "agraffe/agraffelaw08.RestoreEstimates", spec := "restoreEstimates", unfollowed := true, recurses := true, apart := false }
def RestoreEstimatesSaid : Prop := restoreEstimatesRow.holds Tryz.pinned (OpenSpec.ofChange restoreEstimatesSpec)

/-- ITS FALSE NEIGHBOUR: 'it returns false'. Refute it at one input. -/
def restoreEstimatesWrong : ChangeSpec := { name := "restoreEstimates", fn := fun _ => fun
  | [d1, d2, d3] => { results := [.lit (.bool false)], args := [d1, d2, d3] }
  | _ => none }
def RestoreEstimatesWrongFalsely : Prop := restoreEstimatesRow.holds Tryz.pinned (OpenSpec.ofChange restoreEstimatesWrong)

/-- 'agraffelaw08.RestoreMissing': WHATEVER THE INPUT: true; the input reads as it did. -/
def restoreMissingSpec : ChangeSpec := { name := "restoreMissing", fn := fun _ => fun
  | [d1, d2, d3] => { results := [.lit (.bool true)], args := [d1, d2, d3] }
  | _ => none }
def restoreMissingRow : OpenClaim := { program := "ytifabpmjiphhdaagreat", sum := "12ddba8340afa44db54b499b3fba4b36834a6f7491d56d4b70e5914476e085fd", func := "agraffe/agraffelaw08.RestoreMissing", spec := "restoreMissing", unfollowed := true, recurses := true, apart := false }
def RestoreMissingSaid : Prop := restoreMissingRow.holds Tryz.pinned (OpenSpec.ofChange restoreMissingSpec)

/-- ITS FALSE NEIGHBOUR: 'it returns false'. Refute it at one input. -/
def restoreMissingWrong : ChangeSpec := { name := "restoreMissing", fn := fun _ => fun
  | [d1, d2, d3] => { results := [.lit (.bool false)], args := [d1, d2, d3] }
  | _ => none }
def RestoreMissingWrongFalsely : Prop := restoreMissingRow.holds Tryz.pinned (OpenSpec.ofChange restoreMissingWrong)

/-- 'agraffelaw08.RestorePromises': WHATEVER THE INPUT: true; the input reads as it did. -/
def restorePromisesSpec : ChangeSpec := { name := "restorePromises", fn := fun _ => fun
  | [d1, d2, d3] => { results := [.lit (.bool true)], args := [d1, d2, d3] }
  | _ => none }
def restorePromisesRow : OpenClaim := { program := "ytifabpmjiphhdaagreat", sum := "12ddba8340afa44db54b499b3fba4b36834a6f7491d56d4b70e5914476e085fd", func := "agraffe/agraffelaw08.RestorePromises", spec := "restorePromises", unfollowed := true, recurses := true, apart := false }
def RestorePromisesSaid : Prop := restorePromisesRow.holds Tryz.pinned (OpenSpec.ofChange restorePromisesSpec)

/-- ITS FALSE NEIGHBOUR: 'it returns false'. Refute it at one input. -/
def restorePromisesWrong : ChangeSpec := { name := "restorePromises", fn := fun _ => fun
  | [d1, d2, d3] => { results := [.lit (.bool false)], args := [d1, d2, d3] }
  | _ => none }
def RestorePromisesWrongFalsely : Prop := restorePromisesRow.holds Tryz.pinned (OpenSpec.ofChange restorePromisesWrong)

/-- 'agraffelaw08.RestoreClosures': WHATEVER THE INPUT: true; the input reads as it did. -/
def restoreClosuresSpec : ChangeSpec := { name := "restoreClosures", fn := fun _ => fun
  | [d1, d2, d3] => { results := [.lit (.bool true)], args := [d1, d2, d3] }
  | _ => none }
def restoreClosuresRow : OpenClaim := { program := "ytifabpmjiphhdaagreat", sum := "12ddba8340afa44db54b499b3fba4b36834a6f7491d56d4b70e5914476e085fd", func := "agraffe/agraffelaw08.RestoreClosures", spec := "restoreClosures", unfollowed := true, recurses := true, apart := false }
def RestoreClosuresSaid : Prop := restoreClosuresRow.holds Tryz.pinned (OpenSpec.ofChange restoreClosuresSpec)

/-- ITS FALSE NEIGHBOUR: 'it returns false'. Refute it at one input. -/
def restoreClosuresWrong : ChangeSpec := { name := "restoreClosures", fn := fun _ => fun
  | [d1, d2, d3] => { results := [.lit (.bool false)], args := [d1, d2, d3] }
  | _ => none }
def RestoreClosuresWrongFalsely : Prop := restoreClosuresRow.holds Tryz.pinned (OpenSpec.ofChange restoreClosuresWrong)

/-- 'agraffelaw08.RestoreProofs': WHATEVER THE INPUT: true; the input reads as it did. -/
def restoreProofsSpec : ChangeSpec := { name := "restoreProofs", fn := fun _ => fun
  | [d1, d2, d3] => { results := [.lit (.bool true)], args := [d1, d2, d3] }
  | _ => none }
def restoreProofsRow : OpenClaim := { program := "ytifabpmjiphhdaagreat", sum := "12ddba8340afa44db54b499b3fba4b36834a6f7491d56d4b70e5914476e085fd", func := "agraffe/agraffelaw08.RestoreProofs", spec := "restoreProofs", unfollowed := true, recurses := true, apart := false }
def RestoreProofsSaid : Prop := restoreProofsRow.holds Tryz.pinned (OpenSpec.ofChange restoreProofsSpec)

/-- ITS FALSE NEIGHBOUR: 'it returns false'. Refute it at one input. -/
def restoreProofsWrong : ChangeSpec := { name := "restoreProofs", fn := fun _ => fun
  | [d1, d2, d3] => { results := [.lit (.bool false)], args := [d1, d2, d3] }
  | _ => none }
def RestoreProofsWrongFalsely : Prop := restoreProofsRow.holds Tryz.pinned (OpenSpec.ofChange restoreProofsWrong)

/-- 'agraffelaw08.RestoreCheapest': WHATEVER THE INPUT: true; the input reads as it did. -/
def restoreCheapestSpec : ChangeSpec := { name := "restoreCheapest", fn := fun _ => fun
  | [d1, d2, d3] => { results := [.lit (.bool true)], args := [d1, d2, d3] }
  | _ => none }
def restoreCheapestRow : OpenClaim := { program := "ytifabpmjiphhdaagreat", sum := "12ddba8340afa44db54b499b3fba4b36834a6f7491d56d4b70e5914476e085fd", func := "agraffe/agraffelaw08.RestoreCheapest", spec := "restoreCheapest", unfollowed := true, recurses := true, apart := false }
def RestoreCheapestSaid : Prop := restoreCheapestRow.holds Tryz.pinned (OpenSpec.ofChange restoreCheapestSpec)

/-- ITS FALSE NEIGHBOUR: 'it returns false'. Refute it at one input. -/
def restoreCheapestWrong : ChangeSpec := { name := "restoreCheapest", fn := fun _ => fun
  | [d1, d2, d3] => { results := [.lit (.bool false)], args := [d1, d2, d3] }
  | _ => none }
def RestoreCheapestWrongFalsely : Prop := restoreCheapestRow.holds Tryz.pinned (OpenSpec.ofChange restoreCheapestWrong)

/-- 'agraffelaw08.RestoreMatches': WHATEVER THE INPUT: true; the input reads as it did. -/
def restoreMatchesSpec : ChangeSpec := { name := "restoreMatches", fn := fun _ => fun
  | [d1, d2] => { results := [.lit (.bool true)], args := [d1, d2] }
  | _ => none }
def restoreMatchesRow : OpenClaim := { program := "ytifabpmjiphhdaagreat", sum := "12ddba8340afa44db54b499b3fba4b36834a6f7491d56d4b70e5914476e085fd", func := "agraffe/agraffelaw08.RestoreMatches", spec := "restoreMatches", unfollowed := true, recurses := true, apart := false }
def RestoreMatchesSaid : Prop := restoreMatchesRow.holds Tryz.pinned (OpenSpec.ofChange restoreMatchesSpec)

/-- ITS FALSE NEIGHBOUR: 'it returns false'. Refute it at one input. -/
def restoreMatchesWrong : ChangeSpec := { name := "restoreMatches", fn := fun _ => fun
  | [d1, d2] => { results := [.lit (.bool false)], args := [d1, d2] }
  | _ => none }
def RestoreMatchesWrongFalsely : Prop := restoreMatchesRow.holds Tryz.pinned (OpenSpec.ofChange restoreMatchesWrong)

/-- 'agraffelaw08.RestoreCosts': WHATEVER THE INPUT: true; the input reads as it did. -/
def restoreCostsSpec : ChangeSpec := { name := "restoreCosts", fn := fun _ => fun
  | [d1, d2, d3] => { results := [.lit (.bool true)], args := [d1, d2, d3] }
  | _ => none }
def restoreCostsRow : OpenClaim := { program := "ytifabpmjiphhdaagreat", sum := "12ddba8340afa44db54b499b3fba4b36834a6f7491d56d4b70e5914476e085fd", func := "agraffe/agraffelaw08.RestoreCosts", spec := "restoreCosts", unfollowed := true, recurses := true, apart := false }
def RestoreCostsSaid : Prop := restoreCostsRow.holds Tryz.pinned (OpenSpec.ofChange restoreCostsSpec)

/-- ITS FALSE NEIGHBOUR: 'it returns false'. Refute it at one input. -/
def restoreCostsWrong : ChangeSpec := { name := "restoreCosts", fn := fun _ => fun
  | [d1, d2, d3] => { results := [.lit (.bool false)], args := [d1, d2, d3] }
  | _ => none }
def RestoreCostsWrongFalsely : Prop := restoreCostsRow.holds Tryz.pinned (OpenSpec.ofChange restoreCostsWrong)

/-- 'agraffelaw08.RestoreWork': WHATEVER THE INPUT: true; the input reads as it did. -/
def restoreWorkSpec : ChangeSpec := { name := "restoreWork", fn := fun _ => fun
  | [d1, d2] => { results := [.lit (.bool true)], args := [d1, d2] }
  | _ => none }
def restoreWorkRow : OpenClaim := { program := "ytifabpmjiphhdaagreat", sum := "12ddba8340afa44db54b499b3fba4b36834a6f7491d56d4b70e5914476e085fd", func := "agraffe/agraffelaw08.RestoreWork", spec := "restoreWork", unfollowed := true, recurses := true, apart := false }
def RestoreWorkSaid : Prop := restoreWorkRow.holds Tryz.pinned (OpenSpec.ofChange restoreWorkSpec)

/-- ITS FALSE NEIGHBOUR: 'it returns false'. Refute it at one input. -/
def restoreWorkWrong : ChangeSpec := { name := "restoreWork", fn := fun _ => fun
  | [d1, d2] => { results := [.lit (.bool false)], args := [d1, d2] }
  | _ => none }
def RestoreWorkWrongFalsely : Prop := restoreWorkRow.holds Tryz.pinned (OpenSpec.ofChange restoreWorkWrong)

/-- 'agraffetop.TopEstimateOnce': WHATEVER THE INPUT: true; the input reads as it did. -/
def topEstimateOnceSpec : ChangeSpec := { name := "topEstimateOnce", fn := fun _ => fun
  | [d1, d2, d3] => { results := [.lit (.bool true)], args := [d1, d2, d3] }
  | _ => none }
def topEstimateOnceRow : OpenClaim := { program := "ytifabpmjiphhdaagreat", sum := "12ddba8340afa44db54b499b3fba4b36834a6f7491d56d4b70e5914476e085fd", func := "agraffe/agraffetop.TopEstimateOnce", spec := "topEstimateOnce", unfollowed := true, recurses := true, apart := false }
def TopEstimateOnceSaid : Prop := topEstimateOnceRow.holds Tryz.pinned (OpenSpec.ofChange topEstimateOnceSpec)

/-- ITS FALSE NEIGHBOUR: 'it returns false'. Refute it at one input. -/
def topEstimateOnceWrong : ChangeSpec := { name := "topEstimateOnce", fn := fun _ => fun
  | [d1, d2, d3] => { results := [.lit (.bool false)], args := [d1, d2, d3] }
  | _ => none }
def TopEstimateOnceWrongFalsely : Prop := topEstimateOnceRow.holds Tryz.pinned (OpenSpec.ofChange topEstimateOnceWrong)

/-- 'agraffetop.TopPromisedOnce': WHATEVER THE INPUT: true; the input reads as it did. -/
def topPromisedOnceSpec : ChangeSpec := { name := "topPromisedOnce", fn := fun _ => fun
  | [d1, d2, d3] => { results := [.lit (.bool true)], args := [d1, d2, d3] }
  | _ => none }
def topPromisedOnceRow : OpenClaim := { program := "ytifabpmjiphhdaagreat", sum := "12ddba8340afa44db54b499b3fba4b36834a6f7491d56d4b70e5914476e085fd", func := "agraffe/agraffetop.TopPromisedOnce", spec := "topPromisedOnce", unfollowed := true, recurses := true, apart := false }
def TopPromisedOnceSaid : Prop := topPromisedOnceRow.holds Tryz.pinned (OpenSpec.ofChange topPromisedOnceSpec)

/-- ITS FALSE NEIGHBOUR: 'it returns false'. Refute it at one input. -/
def topPromisedOnceWrong : ChangeSpec := { name := "topPromisedOnce", fn := fun _ => fun
  | [d1, d2, d3] => { results := [.lit (.bool false)], args := [d1, d2, d3] }
  | _ => none }
def TopPromisedOnceWrongFalsely : Prop := topPromisedOnceRow.holds Tryz.pinned (OpenSpec.ofChange topPromisedOnceWrong)

/- THE SECOND FORM. 'bulk': how many values and letters a reading holds, each counted each time it is reached (what is shared counts as often as it is met; a slice's spare places count too). A statement '..UptoSaid' is the law's where the arguments, and the package variables that the reading takes, are together of bulk at most 1048576: NARROWER than '..Said'. Prove '..Said' where nothing that the law and all that it calls make is longer than what came in: it says more and counts as full. Else prove '..UptoSaid'. A law counts once. -/
mutual
def uptoBulk {H : Type} : DataW H → Nat
  | .lit (.string bytes) => bytes.length + 1
  | .lit _ => 1
  | .nil => 1
  | .ptr d => uptoBulk d + 1
  | .slice elems spare => uptoBulkAll elems + uptoBulkAll spare + 1
  | .agg parts => uptoBulkAll parts + 1
  | .iface _ d => uptoBulk d + 1
  | .map entries => uptoBulkEntries entries + 1
  | .held _ => 1
def uptoBulkAll {H : Type} : List (DataW H) → Nat
  | [] => 0
  | d :: r => uptoBulk d + uptoBulkAll r
def uptoBulkEntries {H : Type} : List (Lit × DataW H) → Nat
  | [] => 0
  | x :: r => uptoBulkEntry x + uptoBulkEntries r
def uptoBulkEntry {H : Type} : Lit × DataW H → Nat
  | (.string bytes, d) => bytes.length + uptoBulk d + 1
  | (_, d) => uptoBulk d + 1
 end
def uptoSmall : (H : Type) → List (DataW H) → Bool := fun _ ds => decide (uptoBulkAll ds ≤ 1048576)
def OpenSpec.upto (s : _root_.Go.ChangeSpec) : _root_.Go.OpenSpec := { _root_.Go.OpenSpec.ofChange s with cond := some uptoSmall }

/-- 'agraffelaw08.RestoreTasks', WHERE WHAT IT READS IS OF BULK AT MOST 1048576: true; the input reads as it did. -/
def restoreTasksUptoRow : OpenClaim := { program := "ytifabpmjiphhdaagreat", sum := "12ddba8340afa44db54b499b3fba4b36834a6f7491d56d4b70e5914476e085fd", func := "agraffe/agraffelaw08.RestoreTasks", spec := "restoreTasks", unfollowed := true, recurses := true, apart := false, narrowed := true }
def RestoreTasksUptoSaid : Prop := restoreTasksUptoRow.holds Tryz.pinned (OpenSpec.upto restoreTasksSpec)

/-- 'agraffelaw08.RestoreEstimates', WHERE WHAT IT READS IS OF BULK AT MOST 1048576: true; the input reads as it did. -/
def restoreEstimatesUptoRow : OpenClaim := { program := "ytifabpmjiphhdaagreat", sum := "12ddba8340afa44db54b499b3fba4b36834a6f7491d56d4b70e5914476e085fd", func := "agraffe/agraffelaw08.RestoreEstimates", spec := "restoreEstimates", unfollowed := true, recurses := true, apart := false, narrowed := true }
def RestoreEstimatesUptoSaid : Prop := restoreEstimatesUptoRow.holds Tryz.pinned (OpenSpec.upto restoreEstimatesSpec)

/-- 'agraffelaw08.RestoreMissing', WHERE WHAT IT READS IS OF BULK AT MOST 1048576: true; the input reads as it did. -/
def restoreMissingUptoRow : OpenClaim := { program := "ytifabpmjiphhdaagreat", sum := "12ddba8340afa44db54b499b3fba4b36834a6f7491d56d4b70e5914476e085fd", func := "agraffe/agraffelaw08.RestoreMissing", spec := "restoreMissing", unfollowed := true, recurses := true, apart := false, narrowed := true }
def RestoreMissingUptoSaid : Prop := restoreMissingUptoRow.holds Tryz.pinned (OpenSpec.upto restoreMissingSpec)

/-- 'agraffelaw08.RestorePromises', WHERE WHAT IT READS IS OF BULK AT MOST 1048576: true; the input reads as it did. -/
def restorePromisesUptoRow : OpenClaim := { program := "ytifabpmjiphhdaagreat", sum := "12ddba8340afa44db54b499b3fba4b36834a6f7491d56d4b70e5914476e085fd", func := "agraffe/agraffelaw08.RestorePromises", spec := "restorePromises", unfollowed := true, recurses := true, apart := false, narrowed := true }
def RestorePromisesUptoSaid : Prop := restorePromisesUptoRow.holds Tryz.pinned (OpenSpec.upto restorePromisesSpec)

/-- 'agraffelaw08.RestoreClosures', WHERE WHAT IT READS IS OF BULK AT MOST 1048576: true; the input reads as it did. -/
def restoreClosuresUptoRow : OpenClaim := { program := "ytifabpmjiphhdaagreat", sum := "12ddba8340afa44db54b499b3fba4b36834a6f7491d56d4b70e5914476e085fd", func := "agraffe/agraffelaw08.RestoreClosures", spec := "restoreClosures", unfollowed := true, recurses := true, apart := false, narrowed := true }
def RestoreClosuresUptoSaid : Prop := restoreClosuresUptoRow.holds Tryz.pinned (OpenSpec.upto restoreClosuresSpec)

/-- 'agraffelaw08.RestoreProofs', WHERE WHAT IT READS IS OF BULK AT MOST 1048576: true; the input reads as it did. -/
def restoreProofsUptoRow : OpenClaim := { program := "ytifabpmjiphhdaagreat", sum := "12ddba8340afa44db54b499b3fba4b36834a6f7491d56d4b70e5914476e085fd", func := "agraffe/agraffelaw08.RestoreProofs", spec := "restoreProofs", unfollowed := true, recurses := true, apart := false, narrowed := true }
def RestoreProofsUptoSaid : Prop := restoreProofsUptoRow.holds Tryz.pinned (OpenSpec.upto restoreProofsSpec)

/-- 'agraffelaw08.RestoreCheapest', WHERE WHAT IT READS IS OF BULK AT MOST 1048576: true; the input reads as it did. -/
def restoreCheapestUptoRow : OpenClaim := { program := "ytifabpmjiphhdaagreat", sum := "12ddba8340afa44db54b499b3fba4b36834a6f7491d56d4b70e5914476e085fd", func := "agraffe/agraffelaw08.RestoreCheapest", spec := "restoreCheapest", unfollowed := true, recurses := true, apart := false, narrowed := true }
def RestoreCheapestUptoSaid : Prop := restoreCheapestUptoRow.holds Tryz.pinned (OpenSpec.upto restoreCheapestSpec)

/-- 'agraffelaw08.RestoreMatches', WHERE WHAT IT READS IS OF BULK AT MOST 1048576: true; the input reads as it did. -/
def restoreMatchesUptoRow : OpenClaim := { program := "ytifabpmjiphhdaagreat", sum := "12ddba8340afa44db54b499b3fba4b36834a6f7491d56d4b70e5914476e085fd", func := "agraffe/agraffelaw08.RestoreMatches", spec := "restoreMatches", unfollowed := true, recurses := true, apart := false, narrowed := true }
def RestoreMatchesUptoSaid : Prop := restoreMatchesUptoRow.holds Tryz.pinned (OpenSpec.upto restoreMatchesSpec)

/-- 'agraffelaw08.RestoreCosts', WHERE WHAT IT READS IS OF BULK AT MOST 1048576: true; the input reads as it did. -/
def restoreCostsUptoRow : OpenClaim := { program := "ytifabpmjiphhdaagreat", sum := "12ddba8340afa44db54b499b3fba4b36834a6f7491d56d4b70e5914476e085fd", func := "agraffe/agraffelaw08.RestoreCosts", spec := "restoreCosts", unfollowed := true, recurses := true, apart := false, narrowed := true }
def RestoreCostsUptoSaid : Prop := restoreCostsUptoRow.holds Tryz.pinned (OpenSpec.upto restoreCostsSpec)

/-- 'agraffelaw08.RestoreWork', WHERE WHAT IT READS IS OF BULK AT MOST 1048576: true; the input reads as it did. -/
def restoreWorkUptoRow : OpenClaim := { program := "ytifabpmjiphhdaagreat", sum := "12ddba8340afa44db54b499b3fba4b36834a6f7491d56d4b70e5914476e085fd", func := "agraffe/agraffelaw08.RestoreWork", spec := "restoreWork", unfollowed := true, recurses := true, apart := false, narrowed := true }
def RestoreWorkUptoSaid : Prop := restoreWorkUptoRow.holds Tryz.pinned (OpenSpec.upto restoreWorkSpec)

/-- 'agraffetop.TopEstimateOnce', WHERE WHAT IT READS IS OF BULK AT MOST 1048576: true; the input reads as it did. -/
def topEstimateOnceUptoRow : OpenClaim := { program := "ytifabpmjiphhdaagreat", sum := "12ddba8340afa44db54b499b3fba4b36834a6f7491d56d4b70e5914476e085fd", func := "agraffe/agraffetop.TopEstimateOnce", spec := "topEstimateOnce", unfollowed := true, recurses := true, apart := false, narrowed := true }
def TopEstimateOnceUptoSaid : Prop := topEstimateOnceUptoRow.holds Tryz.pinned (OpenSpec.upto topEstimateOnceSpec)

/-- 'agraffetop.TopPromisedOnce', WHERE WHAT IT READS IS OF BULK AT MOST 1048576: true; the input reads as it did. -/
def topPromisedOnceUptoRow : OpenClaim := { program := "ytifabpmjiphhdaagreat", sum := "12ddba8340afa44db54b499b3fba4b36834a6f7491d56d4b70e5914476e085fd", func := "agraffe/agraffetop.TopPromisedOnce", spec := "topPromisedOnce", unfollowed := true, recurses := true, apart := false, narrowed := true }
def TopPromisedOnceUptoSaid : Prop := topPromisedOnceUptoRow.holds Tryz.pinned (OpenSpec.upto topPromisedOnceSpec)

end Rows
end Go.Proofs.YtifabpmjiphhdaaGreat
