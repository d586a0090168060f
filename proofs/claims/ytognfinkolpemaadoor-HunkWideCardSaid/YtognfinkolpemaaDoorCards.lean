/-
  DERIVED. GIVEN WITH THE SEED: THE CARDS: each row of YtognfinkolpemaaDoorRows.lean that lists a variable, with what it lists TIED to the program's text (the seventh form; the later family's looks); each row that meets fmt, with fmt's text TOLD by the authors' own Lean function (tested against real Go, not proved from fmt's source: count such statements apart). THE CARD IS WHAT COUNTS. Prove the row's statement (the work); the ties are given (YtognfinkolpemaaDoorTie.lean); close each card by the builder's one call (the guide's Derived/Test/ToyasCard.lean, 'card_holds'). Laid BY PROGRAM, IN A SANDBOX (cutbox-door.mjs). By AI agents, Wed Nov 11 2026. No macro, syntax, notation, axiom, sorry.
-/
import Derived.Test.YtognfinkolpemaaDoorRows
import GoSem.ClaimSeven
namespace Go.Proofs.YtognfinkolpemaaDoor
namespace Rows

/-- THE TIED CARD OF 'sidinglaw15.HunkWide'. -/
def hunkWideCard : Claim7 := { stood := { row := hunkWideRow, standIns := [], harness := (true, "619ea8d755ea96ea4edfa29fb2057c1e65bad39c932734a102c0f4af6de650be"), looks := false }, kinds := [], alts := [], laidByText := true, laidKinds := [.data, .data, .data], laidTests := true, laidLooks := .later }
def HunkWideCardSaid : Prop := Claim7.holds Tryd.pinned (.plain (OpenSpec.ofChange hunkWideSpec)) hunkWideCard

/-- THE TIED CARD OF 'sidinglaw15.HunkDiff'. -/
def hunkDiffCard : Claim7 := { stood := { row := hunkDiffRow, standIns := [], harness := (true, "619ea8d755ea96ea4edfa29fb2057c1e65bad39c932734a102c0f4af6de650be"), looks := false }, kinds := [], alts := [], laidByText := true, laidKinds := [.data, .data, .data], laidTests := true, laidLooks := .later }
def HunkDiffCardSaid : Prop := Claim7.holds Tryd.pinned (.plain (OpenSpec.ofChange hunkDiffSpec)) hunkDiffCard

/-- THE SECOND FORM's CARD OF 'sidinglaw15.HunkWide'. -/
def hunkWideUptoCard : Claim7 := { stood := { row := hunkWideUptoRow, standIns := [], harness := (true, "619ea8d755ea96ea4edfa29fb2057c1e65bad39c932734a102c0f4af6de650be"), looks := false }, kinds := [], alts := [], laidByText := true, laidKinds := [.data, .data, .data], laidTests := true, laidLooks := .later }
def HunkWideUptoCardSaid : Prop := Claim7.holds Tryd.pinned (.plain (OpenSpec.upto hunkWideSpec)) hunkWideUptoCard

/-- THE SECOND FORM's CARD OF 'sidinglaw15.HunkDiff'. -/
def hunkDiffUptoCard : Claim7 := { stood := { row := hunkDiffUptoRow, standIns := [], harness := (true, "619ea8d755ea96ea4edfa29fb2057c1e65bad39c932734a102c0f4af6de650be"), looks := false }, kinds := [], alts := [], laidByText := true, laidKinds := [.data, .data, .data], laidTests := true, laidLooks := .later }
def HunkDiffUptoCardSaid : Prop := Claim7.holds Tryd.pinned (.plain (OpenSpec.upto hunkDiffSpec)) hunkDiffUptoCard
end Rows
end Go.Proofs.YtognfinkolpemaaDoor
