/-
  DERIVED. GIVEN WITH THE SEED: THE CARDS: each row of YtpklfaglenkdaaaDoorRows.lean that lists a variable, with what it lists TIED to the program's text (the seventh form; the later family's looks); each row that meets fmt, with fmt's text TOLD by the authors' own Lean function (tested against real Go, not proved from fmt's source: count such statements apart). THE CARD IS WHAT COUNTS. Prove the row's statement (the work); the ties are given (YtpklfaglenkdaaaDoorTie.lean); close each card by the builder's one call (the guide's Derived/Test/ToyasCard.lean, 'card_holds'). Laid BY PROGRAM, IN A SANDBOX (cutbox-door.mjs). By AI agents, Wed Nov 11 2026. No macro, syntax, notation, axiom, sorry.
-/
import Derived.Test.YtpklfaglenkdaaaDoorRows
import GoSem.ClaimSeven
namespace Go.Proofs.YtpklfaglenkdaaaDoor
namespace Rows

/-- THE TIED CARD OF 'sidinglaw19.MarkDoes'. -/
def markDoesCard : Claim7 := { stood := { row := markDoesRow, standIns := [], harness := (true, "929a9f8098397e46a3ffd3bec0e413195c4b2315dc13d831a9ea3f8da104a83e"), looks := false }, kinds := [], alts := [], laidByText := true, laidKinds := [.data, .pinned], laidTests := true, laidLooks := .later }
def MarkDoesCardSaid : Prop := Claim7.holds Tryd.pinned (.plain (OpenSpec.ofChange markDoesSpec)) markDoesCard

/-- THE TIED CARD OF 'sidinglaw19.MarkChoices'. -/
def markChoicesCard : Claim7 := { stood := { row := markChoicesRow, standIns := [], harness := (true, "929a9f8098397e46a3ffd3bec0e413195c4b2315dc13d831a9ea3f8da104a83e"), looks := false }, kinds := [], alts := [], laidByText := true, laidKinds := [.data, .pinned], laidTests := true, laidLooks := .later }
def MarkChoicesCardSaid : Prop := Claim7.holds Tryd.pinned (.plain (OpenSpec.ofChange markChoicesSpec)) markChoicesCard

/-- THE TIED CARD OF 'sidinglaw19.MarkNames'. -/
def markNamesCard : Claim7 := { stood := { row := markNamesRow, standIns := [], harness := (true, "929a9f8098397e46a3ffd3bec0e413195c4b2315dc13d831a9ea3f8da104a83e"), looks := false }, kinds := [], alts := [], laidByText := true, laidKinds := [.data, .pinned], laidTests := true, laidLooks := .later }
def MarkNamesCardSaid : Prop := Claim7.holds Tryd.pinned (.plain (OpenSpec.ofChange markNamesSpec)) markNamesCard

/-- THE TIED CARD OF 'sidinglaw19.MarkBack'. -/
def markBackCard : Claim7 := { stood := { row := markBackRow, standIns := [], harness := (true, "929a9f8098397e46a3ffd3bec0e413195c4b2315dc13d831a9ea3f8da104a83e"), looks := false }, kinds := [], alts := [], laidByText := true, laidKinds := [.data, .pinned], laidTests := true, laidLooks := .later }
def MarkBackCardSaid : Prop := Claim7.holds Tryd.pinned (.plain (OpenSpec.ofChange markBackSpec)) markBackCard

/-- THE TIED CARD OF 'sidinglaw19.MarkLines'. -/
def markLinesCard : Claim7 := { stood := { row := markLinesRow, standIns := [], harness := (true, "929a9f8098397e46a3ffd3bec0e413195c4b2315dc13d831a9ea3f8da104a83e"), looks := false }, kinds := [], alts := [], laidByText := true, laidKinds := [.data, .pinned], laidTests := true, laidLooks := .later }
def MarkLinesCardSaid : Prop := Claim7.holds Tryd.pinned (.plain (OpenSpec.ofChange markLinesSpec)) markLinesCard

/-- THE SECOND FORM's CARD OF 'sidinglaw19.MarkDoes'. -/
def markDoesUptoCard : Claim7 := { stood := { row := markDoesUptoRow, standIns := [], harness := (true, "929a9f8098397e46a3ffd3bec0e413195c4b2315dc13d831a9ea3f8da104a83e"), looks := false }, kinds := [], alts := [], laidByText := true, laidKinds := [.data, .pinned], laidTests := true, laidLooks := .later }
def MarkDoesUptoCardSaid : Prop := Claim7.holds Tryd.pinned (.plain (OpenSpec.upto markDoesSpec)) markDoesUptoCard

/-- THE SECOND FORM's CARD OF 'sidinglaw19.MarkChoices'. -/
def markChoicesUptoCard : Claim7 := { stood := { row := markChoicesUptoRow, standIns := [], harness := (true, "929a9f8098397e46a3ffd3bec0e413195c4b2315dc13d831a9ea3f8da104a83e"), looks := false }, kinds := [], alts := [], laidByText := true, laidKinds := [.data, .pinned], laidTests := true, laidLooks := .later }
def MarkChoicesUptoCardSaid : Prop := Claim7.holds Tryd.pinned (.plain (OpenSpec.upto markChoicesSpec)) markChoicesUptoCard

/-- THE SECOND FORM's CARD OF 'sidinglaw19.MarkNames'. -/
def markNamesUptoCard : Claim7 := { stood := { row := markNamesUptoRow, standIns := [], harness := (true, "929a9f8098397e46a3ffd3bec0e413195c4b2315dc13d831a9ea3f8da104a83e"), looks := false }, kinds := [], alts := [], laidByText := true, laidKinds := [.data, .pinned], laidTests := true, laidLooks := .later }
def MarkNamesUptoCardSaid : Prop := Claim7.holds Tryd.pinned (.plain (OpenSpec.upto markNamesSpec)) markNamesUptoCard

/-- THE SECOND FORM's CARD OF 'sidinglaw19.MarkBack'. -/
def markBackUptoCard : Claim7 := { stood := { row := markBackUptoRow, standIns := [], harness := (true, "929a9f8098397e46a3ffd3bec0e413195c4b2315dc13d831a9ea3f8da104a83e"), looks := false }, kinds := [], alts := [], laidByText := true, laidKinds := [.data, .pinned], laidTests := true, laidLooks := .later }
def MarkBackUptoCardSaid : Prop := Claim7.holds Tryd.pinned (.plain (OpenSpec.upto markBackSpec)) markBackUptoCard

/-- THE SECOND FORM's CARD OF 'sidinglaw19.MarkLines'. -/
def markLinesUptoCard : Claim7 := { stood := { row := markLinesUptoRow, standIns := [], harness := (true, "929a9f8098397e46a3ffd3bec0e413195c4b2315dc13d831a9ea3f8da104a83e"), looks := false }, kinds := [], alts := [], laidByText := true, laidKinds := [.data, .pinned], laidTests := true, laidLooks := .later }
def MarkLinesUptoCardSaid : Prop := Claim7.holds Tryd.pinned (.plain (OpenSpec.upto markLinesSpec)) markLinesUptoCard
end Rows
end Go.Proofs.YtpklfaglenkdaaaDoor
