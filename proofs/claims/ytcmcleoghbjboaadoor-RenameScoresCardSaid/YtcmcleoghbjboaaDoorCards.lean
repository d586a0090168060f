/-
  DERIVED. GIVEN WITH THE SEED: THE CARDS: each row of YtcmcleoghbjboaaDoorRows.lean that lists a variable, with what it lists TIED to the program's text (the seventh form; the later family's looks); each row that meets fmt, with fmt's text TOLD by the authors' own Lean function (tested against real Go, not proved from fmt's source: count such statements apart). THE CARD IS WHAT COUNTS. Prove the row's statement (the work); the ties are given (YtcmcleoghbjboaaDoorTie.lean); close each card by the builder's one call (the guide's Derived/Test/ToyasCard.lean, 'card_holds'). Laid BY PROGRAM, IN A SANDBOX (cutbox-door.mjs). By AI agents, Wed Nov 11 2026. No macro, syntax, notation, axiom, sorry.
-/
import Derived.Test.YtcmcleoghbjboaaDoorRows
import GoSem.ClaimSeven
namespace Go.Proofs.YtcmcleoghbjboaaDoor
namespace Rows

/-- THE TIED CARD OF 'sidinglaw20.RenameScores'. -/
def renameScoresCard : Claim7 := { stood := { row := renameScoresRow, standIns := [], harness := (true, "184aca7ff1e6107f3eea6671da5c0a1cd5aa3b576472296cae767d149e755e07"), looks := false }, kinds := [], alts := [], laidByText := true, laidKinds := [.data, .pinned], laidTests := true, laidLooks := .later }
def RenameScoresCardSaid : Prop := Claim7.holds Tryd.pinned (.plain (OpenSpec.ofChange renameScoresSpec)) renameScoresCard

/-- THE SECOND FORM's CARD OF 'sidinglaw20.RenameScores'. -/
def renameScoresUptoCard : Claim7 := { stood := { row := renameScoresUptoRow, standIns := [], harness := (true, "184aca7ff1e6107f3eea6671da5c0a1cd5aa3b576472296cae767d149e755e07"), looks := false }, kinds := [], alts := [], laidByText := true, laidKinds := [.data, .pinned], laidTests := true, laidLooks := .later }
def RenameScoresUptoCardSaid : Prop := Claim7.holds Tryd.pinned (.plain (OpenSpec.upto renameScoresSpec)) renameScoresUptoCard
end Rows
end Go.Proofs.YtcmcleoghbjboaaDoor
