/-
  DERIVED. GIVEN WITH THE SEED: THE CARDS: each row of YtchkkpbkgghcoaaGreatDoorRows.lean that lists a variable, with what it lists TIED to the program's text (the seventh form; the later family's looks); each row that meets fmt, with fmt's text TOLD by the authors' own Lean function (tested against real Go, not proved from fmt's source: count such statements apart). THE CARD IS WHAT COUNTS. Prove the row's statement (the work); the ties are given (YtchkkpbkgghcoaaGreatDoorTie.lean); close each card by the builder's one call (the guide's Derived/Test/ToyasCard.lean, 'card_holds'). Laid BY PROGRAM, IN A SANDBOX (cutbox-door.mjs). By AI agents, Wed Nov 11 2026. No macro, syntax, notation, axiom, sorry.
-/
import Derived.Test.YtchkkpbkgghcoaaGreatDoorRows
import GoSem.ClaimSeven
namespace Go.Proofs.YtchkkpbkgghcoaaGreatDoor
namespace Rows

/-- THE TIED CARD OF 'agraffelaw08.RestoreTells'. -/
def restoreTellsCard : Claim7 := { stood := { row := restoreTellsRow, standIns := [], harness := (true, "62bdd87f2284b77493e48e1a21c5c4d527b10d9fb4d87f923873359c08f07171"), looks := true }, kinds := [], alts := [], laidByText := true, laidKinds := [.data, .data, .data, .data, .sentinel, .sentinel, .pinned], laidTests := true, laidLooks := .later }
def RestoreTellsCardSaid : Prop := Claim7.holds Tryz.pinned (.plain (OpenSpec.ofChange restoreTellsSpec)) restoreTellsCard

/-- THE TIED CARD OF 'agraffelaw09.DiaryTexts'. -/
def diaryTextsCard : Claim7 := { stood := { row := diaryTextsRow, standIns := [], harness := (true, "62bdd87f2284b77493e48e1a21c5c4d527b10d9fb4d87f923873359c08f07171"), looks := true }, kinds := [], alts := [], laidByText := true, laidKinds := [.data, .data, .data, .data, .sentinel, .sentinel, .widerDeep, .pinned], laidTests := true, laidLooks := .later }
def DiaryTextsCardSaid : Prop := Claim7.holds Tryz.pinned (.plain (OpenSpec.ofChange diaryTextsSpec)) diaryTextsCard

/-- THE TIED CARD OF 'agraffelaw08.RestoreTexts'. -/
def restoreTextsCard : Claim7 := { stood := { row := restoreTextsRow, standIns := [], harness := (true, "62bdd87f2284b77493e48e1a21c5c4d527b10d9fb4d87f923873359c08f07171"), looks := true }, kinds := [], alts := [], laidByText := true, laidKinds := [.data, .data, .data, .data, .sentinel, .sentinel, .pinned], laidTests := true, laidLooks := .later }
def RestoreTextsCardSaid : Prop := Claim7.holds Tryz.pinned (.plain (OpenSpec.ofChange restoreTextsSpec)) restoreTextsCard

/-- THE SECOND FORM's CARD OF 'agraffelaw08.RestoreTells'. -/
def restoreTellsUptoCard : Claim7 := { stood := { row := restoreTellsUptoRow, standIns := [], harness := (true, "62bdd87f2284b77493e48e1a21c5c4d527b10d9fb4d87f923873359c08f07171"), looks := true }, kinds := [], alts := [], laidByText := true, laidKinds := [.data, .data, .data, .data, .sentinel, .sentinel, .pinned], laidTests := true, laidLooks := .later }
def RestoreTellsUptoCardSaid : Prop := Claim7.holds Tryz.pinned (.plain (OpenSpec.upto restoreTellsSpec)) restoreTellsUptoCard

/-- THE SECOND FORM's CARD OF 'agraffelaw09.DiaryTexts'. -/
def diaryTextsUptoCard : Claim7 := { stood := { row := diaryTextsUptoRow, standIns := [], harness := (true, "62bdd87f2284b77493e48e1a21c5c4d527b10d9fb4d87f923873359c08f07171"), looks := true }, kinds := [], alts := [], laidByText := true, laidKinds := [.data, .data, .data, .data, .sentinel, .sentinel, .widerDeep, .pinned], laidTests := true, laidLooks := .later }
def DiaryTextsUptoCardSaid : Prop := Claim7.holds Tryz.pinned (.plain (OpenSpec.upto diaryTextsSpec)) diaryTextsUptoCard

/-- THE SECOND FORM's CARD OF 'agraffelaw08.RestoreTexts'. -/
def restoreTextsUptoCard : Claim7 := { stood := { row := restoreTextsUptoRow, standIns := [], harness := (true, "62bdd87f2284b77493e48e1a21c5c4d527b10d9fb4d87f923873359c08f07171"), looks := true }, kinds := [], alts := [], laidByText := true, laidKinds := [.data, .data, .data, .data, .sentinel, .sentinel, .pinned], laidTests := true, laidLooks := .later }
def RestoreTextsUptoCardSaid : Prop := Claim7.holds Tryz.pinned (.plain (OpenSpec.upto restoreTextsSpec)) restoreTextsUptoCard
end Rows
end Go.Proofs.YtchkkpbkgghcoaaGreatDoor
