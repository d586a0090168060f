/-
  DERIVED. GIVEN WITH THE SEED: THE CARDS: each row of YtiledjckdnkjgaaDoorRows.lean that lists a variable, with what it lists TIED to the program's text (the seventh form; the later family's looks); each row that meets fmt, with fmt's text TOLD by the authors' own Lean function (tested against real Go, not proved from fmt's source: count such statements apart). THE CARD IS WHAT COUNTS. Prove the row's statement (the work); the ties are given (YtiledjckdnkjgaaDoorTie.lean); close each card by the builder's one call (the guide's Derived/Test/ToyasCard.lean, 'card_holds'). Laid BY PROGRAM, IN A SANDBOX (cutbox-door.mjs). By AI agents, Wed Nov 11 2026. No macro, syntax, notation, axiom, sorry.
-/
import Derived.Test.YtiledjckdnkjgaaDoorRows
import GoSem.ClaimSeven
namespace Go.Proofs.YtiledjckdnkjgaaDoor
namespace Rows

/-- THE TIED CARD OF 'sidinglaw13.LinesEnds'. -/
def linesEndsCard : Claim7 := { stood := { row := linesEndsRow, standIns := [], harness := (true, "42ad88fb99ed04f26349ac6c9f437193bcfdefbe37e1fc40955696b6e6e3fd53"), looks := false }, kinds := [], alts := [], laidByText := true, laidKinds := [.data, .pinned], laidTests := true, laidLooks := .later }
def LinesEndsCardSaid : Prop := Claim7.holds Tryd.pinned (.plain (OpenSpec.ofChange linesEndsSpec)) linesEndsCard

/-- THE TIED CARD OF 'sidinglaw13.LinesReplaces'. -/
def linesReplacesCard : Claim7 := { stood := { row := linesReplacesRow, standIns := [], harness := (true, "42ad88fb99ed04f26349ac6c9f437193bcfdefbe37e1fc40955696b6e6e3fd53"), looks := false }, kinds := [], alts := [], laidByText := true, laidKinds := [.data, .pinned], laidTests := true, laidLooks := .later }
def LinesReplacesCardSaid : Prop := Claim7.holds Tryd.pinned (.plain (OpenSpec.ofChange linesReplacesSpec)) linesReplacesCard

/-- THE TIED CARD OF 'sidinglaw13.LinesTexts'. -/
def linesTextsCard : Claim7 := { stood := { row := linesTextsRow, standIns := [], harness := (true, "42ad88fb99ed04f26349ac6c9f437193bcfdefbe37e1fc40955696b6e6e3fd53"), looks := false }, kinds := [], alts := [], laidByText := true, laidKinds := [.data, .pinned], laidTests := true, laidLooks := .later }
def LinesTextsCardSaid : Prop := Claim7.holds Tryd.pinned (.plain (OpenSpec.ofChange linesTextsSpec)) linesTextsCard

/-- THE TIED CARD OF 'sidinglaw13.LinesNames'. -/
def linesNamesCard : Claim7 := { stood := { row := linesNamesRow, standIns := [], harness := (true, "42ad88fb99ed04f26349ac6c9f437193bcfdefbe37e1fc40955696b6e6e3fd53"), looks := false }, kinds := [], alts := [], laidByText := true, laidKinds := [.data, .pinned], laidTests := true, laidLooks := .later }
def LinesNamesCardSaid : Prop := Claim7.holds Tryd.pinned (.plain (OpenSpec.ofChange linesNamesSpec)) linesNamesCard

/-- THE TIED CARD OF 'sidinglaw13.LinesBack'. -/
def linesBackCard : Claim7 := { stood := { row := linesBackRow, standIns := [], harness := (true, "42ad88fb99ed04f26349ac6c9f437193bcfdefbe37e1fc40955696b6e6e3fd53"), looks := false }, kinds := [], alts := [], laidByText := true, laidKinds := [.data, .pinned], laidTests := true, laidLooks := .later }
def LinesBackCardSaid : Prop := Claim7.holds Tryd.pinned (.plain (OpenSpec.ofChange linesBackSpec)) linesBackCard

/-- THE SECOND FORM's CARD OF 'sidinglaw13.LinesEnds'. -/
def linesEndsUptoCard : Claim7 := { stood := { row := linesEndsUptoRow, standIns := [], harness := (true, "42ad88fb99ed04f26349ac6c9f437193bcfdefbe37e1fc40955696b6e6e3fd53"), looks := false }, kinds := [], alts := [], laidByText := true, laidKinds := [.data, .pinned], laidTests := true, laidLooks := .later }
def LinesEndsUptoCardSaid : Prop := Claim7.holds Tryd.pinned (.plain (OpenSpec.upto linesEndsSpec)) linesEndsUptoCard

/-- THE SECOND FORM's CARD OF 'sidinglaw13.LinesReplaces'. -/
def linesReplacesUptoCard : Claim7 := { stood := { row := linesReplacesUptoRow, standIns := [], harness := (true, "42ad88fb99ed04f26349ac6c9f437193bcfdefbe37e1fc40955696b6e6e3fd53"), looks := false }, kinds := [], alts := [], laidByText := true, laidKinds := [.data, .pinned], laidTests := true, laidLooks := .later }
def LinesReplacesUptoCardSaid : Prop := Claim7.holds Tryd.pinned (.plain (OpenSpec.upto linesReplacesSpec)) linesReplacesUptoCard

/-- THE SECOND FORM's CARD OF 'sidinglaw13.LinesTexts'. -/
def linesTextsUptoCard : Claim7 := { stood := { row := linesTextsUptoRow, standIns := [], harness := (true, "42ad88fb99ed04f26349ac6c9f437193bcfdefbe37e1fc40955696b6e6e3fd53"), looks := false }, kinds := [], alts := [], laidByText := true, laidKinds := [.data, .pinned], laidTests := true, laidLooks := .later }
def LinesTextsUptoCardSaid : Prop := Claim7.holds Tryd.pinned (.plain (OpenSpec.upto linesTextsSpec)) linesTextsUptoCard

/-- THE SECOND FORM's CARD OF 'sidinglaw13.LinesNames'. -/
def linesNamesUptoCard : Claim7 := { stood := { row := linesNamesUptoRow, standIns := [], harness := (true, "42ad88fb99ed04f26349ac6c9f437193bcfdefbe37e1fc40955696b6e6e3fd53"), looks := false }, kinds := [], alts := [], laidByText := true, laidKinds := [.data, .pinned], laidTests := true, laidLooks := .later }
def LinesNamesUptoCardSaid : Prop := Claim7.holds Tryd.pinned (.plain (OpenSpec.upto linesNamesSpec)) linesNamesUptoCard

/-- THE SECOND FORM's CARD OF 'sidinglaw13.LinesBack'. -/
def linesBackUptoCard : Claim7 := { stood := { row := linesBackUptoRow, standIns := [], harness := (true, "42ad88fb99ed04f26349ac6c9f437193bcfdefbe37e1fc40955696b6e6e3fd53"), looks := false }, kinds := [], alts := [], laidByText := true, laidKinds := [.data, .pinned], laidTests := true, laidLooks := .later }
def LinesBackUptoCardSaid : Prop := Claim7.holds Tryd.pinned (.plain (OpenSpec.upto linesBackSpec)) linesBackUptoCard
end Rows
end Go.Proofs.YtiledjckdnkjgaaDoor
