/-
  No cell of these rows narrows 'for every input' (looked for: loops, veiled, ifaces, maps, wideKeys, modest, calm, conditions, laid).
  DERIVED. THE GIVEN ROWS OF THIS SEAT. 7 by the template 'for every input the law returns true; each argument reads behind the call as it read before'; 0 by the template 'total and deterministic' (their statements: YtbhpkkbemildnaaTotals.lean).
  GIVEN WITH THE SEED: the statements are not yours to turn. If you find one false, say at which input.
  Laid BY PROGRAM, IN A SANDBOX (cutbox-rows.mjs): the forced cells as the released guide's own fill.sh prints them over the translation 49e8d3648bc95c6d… (all of the seat's roots in one cut). By AI agents, Wed Nov 11 2026. No macro, syntax, notation, axiom, sorry.
-/
import Derived.Test.YtbhpkkbemildnaaChecked
import GoSem.Claim
import GoSem.ClaimJoined
import GoSem.ClaimMapViews
import Derived.JoinedTies
import Derived.KernelRfl
namespace Go.Proofs.Ytbhpkkbemildnaa
/- THE CELL 'sum', in the pinned program and in every row, IS THE sha256 OF THE DUMP (.gsa) THAT YtbhpkkbemildnaaProg.lean LOADS. Nothing in Lean hashes anything: it is a label: what it is worth is what the hold of that sum in a sandbox is worth. -/
noncomputable def Try.pinned : Pinned := { name := "ytbhpkkbemildnaa", sum := "49e8d3648bc95c6d89bb35e15a6bde7d2775dba99bf419ddaaec88ab3d5687b0", checked := Try.checked }
namespace Rows
def none {H : Type} : Left H := { results := [], args := [] }

/-- 'sidinglaw13.LinesParts': WHATEVER THE INPUT: true; the input reads as it did. -/
def linesPartsSpec : ChangeSpec := { name := "linesParts", fn := fun _ => fun
  | [d1, d2, d3, d4] => { results := [.lit (.bool true)], args := [d1, d2, d3, d4] }
  | _ => none }
def linesPartsRow : OpenClaim := { program := "ytbhpkkbemildnaa", sum := "49e8d3648bc95c6d89bb35e15a6bde7d2775dba99bf419ddaaec88ab3d5687b0", func := "siding/sidinglaw13.LinesParts", spec := "linesParts", inPlace := ["internal/bytealg.IndexByteString"], unfollowed := true, recurses := true, apart := false }
def LinesPartsSaid : Prop := linesPartsRow.holds Try.pinned (OpenSpec.ofChange linesPartsSpec)

/-- ITS FALSE NEIGHBOUR: 'it returns false'. Refute it at one input. -/
def linesPartsWrong : ChangeSpec := { name := "linesParts", fn := fun _ => fun
  | [d1, d2, d3, d4] => { results := [.lit (.bool false)], args := [d1, d2, d3, d4] }
  | _ => none }
def LinesPartsWrongFalsely : Prop := linesPartsRow.holds Try.pinned (OpenSpec.ofChange linesPartsWrong)

/-- 'sidinglaw14.LcsChecks': WHATEVER THE INPUT: true; the input reads as it did. -/
def lcsChecksSpec : ChangeSpec := { name := "lcsChecks", fn := fun _ => fun
  | [d1, d2, d3] => { results := [.lit (.bool true)], args := [d1, d2, d3] }
  | _ => none }
def lcsChecksRow : OpenClaim := { program := "ytbhpkkbemildnaa", sum := "49e8d3648bc95c6d89bb35e15a6bde7d2775dba99bf419ddaaec88ab3d5687b0", func := "siding/sidinglaw14.LcsChecks", spec := "lcsChecks", inPlace := ["internal/bytealg.IndexByteString", "internal/abi.NoEscape", "internal/bytealg.MakeNoZero"], unfollowed := true, recurses := true, apart := false }
def LcsChecksSaid : Prop := lcsChecksRow.holds Try.pinned (OpenSpec.ofChange lcsChecksSpec)

/-- ITS FALSE NEIGHBOUR: 'it returns false'. Refute it at one input. -/
def lcsChecksWrong : ChangeSpec := { name := "lcsChecks", fn := fun _ => fun
  | [d1, d2, d3] => { results := [.lit (.bool false)], args := [d1, d2, d3] }
  | _ => none }
def LcsChecksWrongFalsely : Prop := lcsChecksRow.holds Try.pinned (OpenSpec.ofChange lcsChecksWrong)

/-- 'sidinglaw14.LcsFinds': WHATEVER THE INPUT: true; the input reads as it did. -/
def lcsFindsSpec : ChangeSpec := { name := "lcsFinds", fn := fun _ => fun
  | [d1, d2] => { results := [.lit (.bool true)], args := [d1, d2] }
  | _ => none }
def lcsFindsRow : OpenClaim := { program := "ytbhpkkbemildnaa", sum := "49e8d3648bc95c6d89bb35e15a6bde7d2775dba99bf419ddaaec88ab3d5687b0", func := "siding/sidinglaw14.LcsFinds", spec := "lcsFinds", inPlace := ["internal/bytealg.IndexByteString", "internal/abi.NoEscape", "internal/bytealg.MakeNoZero"], unfollowed := true, recurses := true, apart := false }
def LcsFindsSaid : Prop := lcsFindsRow.holds Try.pinned (OpenSpec.ofChange lcsFindsSpec)

/-- ITS FALSE NEIGHBOUR: 'it returns false'. Refute it at one input. -/
def lcsFindsWrong : ChangeSpec := { name := "lcsFinds", fn := fun _ => fun
  | [d1, d2] => { results := [.lit (.bool false)], args := [d1, d2] }
  | _ => none }
def LcsFindsWrongFalsely : Prop := lcsFindsRow.holds Try.pinned (OpenSpec.ofChange lcsFindsWrong)

/-- 'sidinglaw14.LcsTurns': WHATEVER THE INPUT: true; the input reads as it did. -/
def lcsTurnsSpec : ChangeSpec := { name := "lcsTurns", fn := fun _ => fun
  | [d1, d2, d3] => { results := [.lit (.bool true)], args := [d1, d2, d3] }
  | _ => none }
def lcsTurnsRow : OpenClaim := { program := "ytbhpkkbemildnaa", sum := "49e8d3648bc95c6d89bb35e15a6bde7d2775dba99bf419ddaaec88ab3d5687b0", func := "siding/sidinglaw14.LcsTurns", spec := "lcsTurns", inPlace := ["internal/bytealg.IndexByteString", "internal/abi.NoEscape", "internal/bytealg.MakeNoZero"], unfollowed := true, recurses := true, apart := false }
def LcsTurnsSaid : Prop := lcsTurnsRow.holds Try.pinned (OpenSpec.ofChange lcsTurnsSpec)

/-- ITS FALSE NEIGHBOUR: 'it returns false'. Refute it at one input. -/
def lcsTurnsWrong : ChangeSpec := { name := "lcsTurns", fn := fun _ => fun
  | [d1, d2, d3] => { results := [.lit (.bool false)], args := [d1, d2, d3] }
  | _ => none }
def LcsTurnsWrongFalsely : Prop := lcsTurnsRow.holds Try.pinned (OpenSpec.ofChange lcsTurnsWrong)

/-- 'sidinglaw14.LcsMetric': WHATEVER THE INPUT: true; the input reads as it did. -/
def lcsMetricSpec : ChangeSpec := { name := "lcsMetric", fn := fun _ => fun
  | [d1, d2, d3] => { results := [.lit (.bool true)], args := [d1, d2, d3] }
  | _ => none }
def lcsMetricRow : OpenClaim := { program := "ytbhpkkbemildnaa", sum := "49e8d3648bc95c6d89bb35e15a6bde7d2775dba99bf419ddaaec88ab3d5687b0", func := "siding/sidinglaw14.LcsMetric", spec := "lcsMetric", inPlace := ["internal/bytealg.IndexByteString", "internal/abi.NoEscape", "internal/bytealg.MakeNoZero"], unfollowed := true, recurses := true, apart := false }
def LcsMetricSaid : Prop := lcsMetricRow.holds Try.pinned (OpenSpec.ofChange lcsMetricSpec)

/-- ITS FALSE NEIGHBOUR: 'it returns false'. Refute it at one input. -/
def lcsMetricWrong : ChangeSpec := { name := "lcsMetric", fn := fun _ => fun
  | [d1, d2, d3] => { results := [.lit (.bool false)], args := [d1, d2, d3] }
  | _ => none }
def LcsMetricWrongFalsely : Prop := lcsMetricRow.holds Try.pinned (OpenSpec.ofChange lcsMetricWrong)

/-- 'sidinglaw14.LcsNames': WHATEVER THE INPUT: true; the input reads as it did. -/
def lcsNamesSpec : ChangeSpec := { name := "lcsNames", fn := fun _ => fun
  | [] => { results := [.lit (.bool true)], args := [] }
  | _ => none }
def lcsNamesRow : OpenClaim := { program := "ytbhpkkbemildnaa", sum := "49e8d3648bc95c6d89bb35e15a6bde7d2775dba99bf419ddaaec88ab3d5687b0", func := "siding/sidinglaw14.LcsNames", spec := "lcsNames", inPlace := ["internal/bytealg.IndexByteString", "internal/abi.NoEscape", "internal/bytealg.MakeNoZero"], unfollowed := true, recurses := true, apart := false }
def LcsNamesSaid : Prop := lcsNamesRow.holds Try.pinned (OpenSpec.ofChange lcsNamesSpec)

/-- ITS FALSE NEIGHBOUR: 'it returns false'. Refute it at one input. -/
def lcsNamesWrong : ChangeSpec := { name := "lcsNames", fn := fun _ => fun
  | [] => { results := [.lit (.bool false)], args := [] }
  | _ => none }
def LcsNamesWrongFalsely : Prop := lcsNamesRow.holds Try.pinned (OpenSpec.ofChange lcsNamesWrong)

/-- 'sidinglaw14.LcsBest': WHATEVER THE INPUT: true; the input reads as it did. -/
def lcsBestSpec : ChangeSpec := { name := "lcsBest", fn := fun _ => fun
  | [d1, d2, d3] => { results := [.lit (.bool true)], args := [d1, d2, d3] }
  | _ => none }
def lcsBestRow : OpenClaim := { program := "ytbhpkkbemildnaa", sum := "49e8d3648bc95c6d89bb35e15a6bde7d2775dba99bf419ddaaec88ab3d5687b0", func := "siding/sidinglaw14.LcsBest", spec := "lcsBest", inPlace := ["internal/bytealg.IndexByteString", "internal/abi.NoEscape", "internal/bytealg.MakeNoZero"], unfollowed := true, recurses := true, apart := false }
def LcsBestSaid : Prop := lcsBestRow.holds Try.pinned (OpenSpec.ofChange lcsBestSpec)

/-- ITS FALSE NEIGHBOUR: 'it returns false'. Refute it at one input. -/
def lcsBestWrong : ChangeSpec := { name := "lcsBest", fn := fun _ => fun
  | [d1, d2, d3] => { results := [.lit (.bool false)], args := [d1, d2, d3] }
  | _ => none }
def LcsBestWrongFalsely : Prop := lcsBestRow.holds Try.pinned (OpenSpec.ofChange lcsBestWrong)

/- THE SECOND FORM. 'bulk': how many values and letters a reading holds, each counted each time it is reached (what is shared counts as often as it is met; a slice's spare places count too). A statement '..UptoSaid' is the law's where the arguments, and the package variables that the reading takes, are together of bulk at most 1048576: NARROWER than '..Said'. Prove '..Said' where nothing that the law and all that it calls make is longer than what came in: it says more and counts as full. Else prove '..UptoSaid'. A law counts once. -/
mutual
def uptoBulk {H : Type} : DataW H → Nat
  | .lit (.string bytes) => bytes.length + 1
  | .lit _ => 1
  | .nil => 1
  | .ptr d => uptoBulk d + 1
  | .slice elems spare => uptoBulkAll elems + uptoBulkAll spare + 1
  | .agg parts => uptoBulkAll parts + 1
  | .iface _ d => uptoBulk d + 1
  | .map entries => uptoBulkEntries entries + 1
  | .held _ => 1
def uptoBulkAll {H : Type} : List (DataW H) → Nat
  | [] => 0
  | d :: r => uptoBulk d + uptoBulkAll r
def uptoBulkEntries {H : Type} : List (Lit × DataW H) → Nat
  | [] => 0
  | x :: r => uptoBulkEntry x + uptoBulkEntries r
def uptoBulkEntry {H : Type} : Lit × DataW H → Nat
  | (.string bytes, d) => bytes.length + uptoBulk d + 1
  | (_, d) => uptoBulk d + 1
 end
def uptoSmall : (H : Type) → List (DataW H) → Bool := fun _ ds => decide (uptoBulkAll ds ≤ 1048576)
def OpenSpec.upto (s : _root_.Go.ChangeSpec) : _root_.Go.OpenSpec := { _root_.Go.OpenSpec.ofChange s with cond := some uptoSmall }

/-- 'sidinglaw13.LinesParts', WHERE WHAT IT READS IS OF BULK AT MOST 1048576: true; the input reads as it did. -/
def linesPartsUptoRow : OpenClaim := { program := "ytbhpkkbemildnaa", sum := "49e8d3648bc95c6d89bb35e15a6bde7d2775dba99bf419ddaaec88ab3d5687b0", func := "siding/sidinglaw13.LinesParts", spec := "linesParts", inPlace := ["internal/bytealg.IndexByteString"], unfollowed := true, recurses := true, apart := false, narrowed := true }
def LinesPartsUptoSaid : Prop := linesPartsUptoRow.holds Try.pinned (OpenSpec.upto linesPartsSpec)

/-- 'sidinglaw14.LcsChecks', WHERE WHAT IT READS IS OF BULK AT MOST 1048576: true; the input reads as it did. -/
def lcsChecksUptoRow : OpenClaim := { program := "ytbhpkkbemildnaa", sum := "49e8d3648bc95c6d89bb35e15a6bde7d2775dba99bf419ddaaec88ab3d5687b0", func := "siding/sidinglaw14.LcsChecks", spec := "lcsChecks", inPlace := ["internal/bytealg.IndexByteString", "internal/abi.NoEscape", "internal/bytealg.MakeNoZero"], unfollowed := true, recurses := true, apart := false, narrowed := true }
def LcsChecksUptoSaid : Prop := lcsChecksUptoRow.holds Try.pinned (OpenSpec.upto lcsChecksSpec)

/-- 'sidinglaw14.LcsFinds', WHERE WHAT IT READS IS OF BULK AT MOST 1048576: true; the input reads as it did. -/
def lcsFindsUptoRow : OpenClaim := { program := "ytbhpkkbemildnaa", sum := "49e8d3648bc95c6d89bb35e15a6bde7d2775dba99bf419ddaaec88ab3d5687b0", func := "siding/sidinglaw14.LcsFinds", spec := "lcsFinds", inPlace := ["internal/bytealg.IndexByteString", "internal/abi.NoEscape", "internal/bytealg.MakeNoZero"], unfollowed := true, recurses := true, apart := false, narrowed := true }
def LcsFindsUptoSaid : Prop := lcsFindsUptoRow.holds Try.pinned (OpenSpec.upto lcsFindsSpec)

/-- 'sidinglaw14.LcsTurns', WHERE WHAT IT READS IS OF BULK AT MOST 1048576: true; the input reads as it did. -/
def lcsTurnsUptoRow : OpenClaim := { program := "ytbhpkkbemildnaa", sum := "49e8d3648bc95c6d89bb35e15a6bde7d2775dba99bf419ddaaec88ab3d5687b0", func := "siding/sidinglaw14.LcsTurns", spec := "lcsTurns", inPlace := ["internal/bytealg.IndexByteString", "internal/abi.NoEscape", "internal/bytealg.MakeNoZero"], unfollowed := true, recurses := true, apart := false, narrowed := true }
def LcsTurnsUptoSaid : Prop := lcsTurnsUptoRow.holds Try.pinned (OpenSpec.upto lcsTurnsSpec)

/-- 'sidinglaw14.LcsMetric', WHERE WHAT IT READS IS OF BULK AT MOST 1048576: true; the input reads as it did. -/
def lcsMetricUptoRow : OpenClaim := { program := "ytbhpkkbemildnaa", sum := "49e8d3648bc95c6d89bb35e15a6bde7d2775dba99bf419ddaaec88ab3d5687b0", func := "siding/sidinglaw14.LcsMetric", spec := "lcsMetric", inPlace := ["internal/bytealg.IndexByteString", "internal/abi.NoEscape", "internal/bytealg.MakeNoZero"], unfollowed := true, recurses := true, apart := false, narrowed := true }
def LcsMetricUptoSaid : Prop := lcsMetricUptoRow.holds Try.pinned (OpenSpec.upto lcsMetricSpec)

/-- 'sidinglaw14.LcsNames', WHERE WHAT IT READS IS OF BULK AT MOST 1048576: true; the input reads as it did. -/
def lcsNamesUptoRow : OpenClaim := { program := "ytbhpkkbemildnaa", sum := "49e8d3648bc95c6d89bb35e15a6bde7d2775dba99bf419ddaaec88ab3d5687b0", func := "siding/sidinglaw14.LcsNames", spec := "lcsNames", inPlace := ["internal/bytealg.IndexByteString", "internal/abi.NoEscape", "internal/bytealg.MakeNoZero"], unfollowed := true, recurses := true, apart := false, narrowed := true }
def LcsNamesUptoSaid : Prop := lcsNamesUptoRow.holds Try.pinned (OpenSpec.upto lcsNamesSpec)

/-- 'sidinglaw14.LcsBest', WHERE WHAT IT READS IS OF BULK AT MOST 1048576: true; the input reads as it did. -/
def lcsBestUptoRow : OpenClaim := { program := "ytbhpkkbemildnaa", sum := "49e8d3648bc95c6d89bb35e15a6bde7d2775dba99bf419ddaaec88ab3d5687b0", func := "siding/sidinglaw14.LcsBest", spec := "lcsBest", inPlace := ["internal/bytealg.IndexByteString", "internal/abi.NoEscape", "internal/bytealg.MakeNoZero"], unfollowed := true, recurses := true, apart := false, narrowed := true }
def LcsBestUptoSaid : Prop := lcsBestUptoRow.holds Try.pinned (OpenSpec.upto lcsBestSpec)

end Rows
end Go.Proofs.Ytbhpkkbemildnaa
