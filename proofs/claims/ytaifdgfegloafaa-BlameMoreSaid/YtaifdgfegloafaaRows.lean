/-
  No cell of these rows narrows 'for every input' (looked for: loops, veiled, ifaces, maps, wideKeys, modest, calm, conditions, laid).
  DERIVED. THE GIVEN ROWS OF THIS SEAT. 5 by the template 'for every input the law returns true; each argument reads behind the call as it read before'; 0 by the template 'total and deterministic' (their statements: YtaifdgfegloafaaTotals.lean).
  GIVEN WITH THE SEED: the statements are not yours to turn. If you find one false, say at which input.
  Laid BY PROGRAM, IN A SANDBOX (cutbox-rows.mjs): the forced cells as the released guide's own fill.sh prints them over the translation 1fe92a559439537b… (all of the seat's roots in one cut). By AI agents, Wed Nov 11 2026. No macro, syntax, notation, axiom, sorry.
-/
import Derived.Test.YtaifdgfegloafaaChecked
import GoSem.Claim
import GoSem.ClaimJoined
import GoSem.ClaimMapViews
import Derived.JoinedTies
import Derived.KernelRfl
namespace Go.Proofs.Ytaifdgfegloafaa
/- THE CELL 'sum', in the pinned program and in every row, IS THE sha256 OF THE DUMP (.gsa) THAT YtaifdgfegloafaaProg.lean LOADS. Nothing in Lean hashes anything: it is a label: what it is worth is what the hold of that sum in a sandbox is worth. -/
noncomputable def Try.pinned : Pinned := { name := "ytaifdgfegloafaa", sum := "1fe92a559439537b3a67e6cb86081f57d21e97deb2b55e905d166d3c56bc510d", checked := Try.checked }
namespace Rows
def none {H : Type} : Left H := { results := [], args := [] }

/-- 'sidinglaw23.BlameDoes': WHATEVER THE INPUT: true; the input reads as it did. -/
def blameDoesSpec : ChangeSpec := { name := "blameDoes", fn := fun _ => fun
  | [d1, d2] => { results := [.lit (.bool true)], args := [d1, d2] }
  | _ => none }
def blameDoesRow : OpenClaim := { program := "ytaifdgfegloafaa", sum := "1fe92a559439537b3a67e6cb86081f57d21e97deb2b55e905d166d3c56bc510d", func := "siding/sidinglaw23.BlameDoes", spec := "blameDoes", inPlace := ["internal/bytealg.IndexByteString", "internal/abi.NoEscape", "internal/bytealg.MakeNoZero"], unfollowed := true, recurses := true, apart := false }
def BlameDoesSaid : Prop := blameDoesRow.holds Try.pinned (OpenSpec.ofChange blameDoesSpec)

/-- ITS FALSE NEIGHBOUR: 'it returns false'. Refute it at one input. -/
def blameDoesWrong : ChangeSpec := { name := "blameDoes", fn := fun _ => fun
  | [d1, d2] => { results := [.lit (.bool false)], args := [d1, d2] }
  | _ => none }
def BlameDoesWrongFalsely : Prop := blameDoesRow.holds Try.pinned (OpenSpec.ofChange blameDoesWrong)

/-- 'sidinglaw23.BlameNames': WHATEVER THE INPUT: true; the input reads as it did. -/
def blameNamesSpec : ChangeSpec := { name := "blameNames", fn := fun _ => fun
  | [] => { results := [.lit (.bool true)], args := [] }
  | _ => none }
def blameNamesRow : OpenClaim := { program := "ytaifdgfegloafaa", sum := "1fe92a559439537b3a67e6cb86081f57d21e97deb2b55e905d166d3c56bc510d", func := "siding/sidinglaw23.BlameNames", spec := "blameNames", inPlace := ["internal/bytealg.IndexByteString", "internal/abi.NoEscape", "internal/bytealg.MakeNoZero"], unfollowed := true, recurses := true, apart := false }
def BlameNamesSaid : Prop := blameNamesRow.holds Try.pinned (OpenSpec.ofChange blameNamesSpec)

/-- ITS FALSE NEIGHBOUR: 'it returns false'. Refute it at one input. -/
def blameNamesWrong : ChangeSpec := { name := "blameNames", fn := fun _ => fun
  | [] => { results := [.lit (.bool false)], args := [] }
  | _ => none }
def BlameNamesWrongFalsely : Prop := blameNamesRow.holds Try.pinned (OpenSpec.ofChange blameNamesWrong)

/-- 'sidinglaw23.BlameLines': WHATEVER THE INPUT: true; the input reads as it did. -/
def blameLinesSpec : ChangeSpec := { name := "blameLines", fn := fun _ => fun
  | [d] => { results := [.lit (.bool true)], args := [d] }
  | _ => none }
def blameLinesRow : OpenClaim := { program := "ytaifdgfegloafaa", sum := "1fe92a559439537b3a67e6cb86081f57d21e97deb2b55e905d166d3c56bc510d", func := "siding/sidinglaw23.BlameLines", spec := "blameLines", inPlace := ["internal/bytealg.IndexByteString", "internal/abi.NoEscape", "internal/bytealg.MakeNoZero"], unfollowed := true, recurses := true, apart := false }
def BlameLinesSaid : Prop := blameLinesRow.holds Try.pinned (OpenSpec.ofChange blameLinesSpec)

/-- ITS FALSE NEIGHBOUR: 'it returns false'. Refute it at one input. -/
def blameLinesWrong : ChangeSpec := { name := "blameLines", fn := fun _ => fun
  | [d] => { results := [.lit (.bool false)], args := [d] }
  | _ => none }
def BlameLinesWrongFalsely : Prop := blameLinesRow.holds Try.pinned (OpenSpec.ofChange blameLinesWrong)

/-- 'sidinglaw23.BlameTraces': WHATEVER THE INPUT: true; the input reads as it did. -/
def blameTracesSpec : ChangeSpec := { name := "blameTraces", fn := fun _ => fun
  | [d1, d2, d3] => { results := [.lit (.bool true)], args := [d1, d2, d3] }
  | _ => none }
def blameTracesRow : OpenClaim := { program := "ytaifdgfegloafaa", sum := "1fe92a559439537b3a67e6cb86081f57d21e97deb2b55e905d166d3c56bc510d", func := "siding/sidinglaw23.BlameTraces", spec := "blameTraces", inPlace := ["internal/bytealg.IndexByteString", "internal/abi.NoEscape", "internal/bytealg.MakeNoZero"], unfollowed := true, recurses := true, apart := false }
def BlameTracesSaid : Prop := blameTracesRow.holds Try.pinned (OpenSpec.ofChange blameTracesSpec)

/-- ITS FALSE NEIGHBOUR: 'it returns false'. Refute it at one input. -/
def blameTracesWrong : ChangeSpec := { name := "blameTraces", fn := fun _ => fun
  | [d1, d2, d3] => { results := [.lit (.bool false)], args := [d1, d2, d3] }
  | _ => none }
def BlameTracesWrongFalsely : Prop := blameTracesRow.holds Try.pinned (OpenSpec.ofChange blameTracesWrong)

/-- 'sidinglaw23.BlameMore': WHATEVER THE INPUT: true; the input reads as it did. -/
def blameMoreSpec : ChangeSpec := { name := "blameMore", fn := fun _ => fun
  | [d] => { results := [.lit (.bool true)], args := [d] }
  | _ => none }
def blameMoreRow : OpenClaim := { program := "ytaifdgfegloafaa", sum := "1fe92a559439537b3a67e6cb86081f57d21e97deb2b55e905d166d3c56bc510d", func := "siding/sidinglaw23.BlameMore", spec := "blameMore", inPlace := ["internal/bytealg.IndexByteString", "internal/abi.NoEscape", "internal/bytealg.MakeNoZero"], unfollowed := true, recurses := true, apart := false }
def BlameMoreSaid : Prop := blameMoreRow.holds Try.pinned (OpenSpec.ofChange blameMoreSpec)

/-- ITS FALSE NEIGHBOUR: 'it returns false'. Refute it at one input. -/
def blameMoreWrong : ChangeSpec := { name := "blameMore", fn := fun _ => fun
  | [d] => { results := [.lit (.bool false)], args := [d] }
  | _ => none }
def BlameMoreWrongFalsely : Prop := blameMoreRow.holds Try.pinned (OpenSpec.ofChange blameMoreWrong)

/- THE SECOND FORM. 'bulk': how many values and letters a reading holds, each counted each time it is reached (what is shared counts as often as it is met; a slice's spare places count too). A statement '..UptoSaid' is the law's where the arguments, and the package variables that the reading takes, are together of bulk at most 1048576: NARROWER than '..Said'. Prove '..Said' where nothing that the law and all that it calls make is longer than what came in: it says more and counts as full. Else prove '..UptoSaid'. A law counts once. -/
mutual
def uptoBulk {H : Type} : DataW H → Nat
  | .lit (.string bytes) => bytes.length + 1
  | .lit _ => 1
  | .nil => 1
  | .ptr d => uptoBulk d + 1
  | .slice elems spare => uptoBulkAll elems + uptoBulkAll spare + 1
  | .agg parts => uptoBulkAll parts + 1
  | .iface _ d => uptoBulk d + 1
  | .map entries => uptoBulkEntries entries + 1
  | .held _ => 1
def uptoBulkAll {H : Type} : List (DataW H) → Nat
  | [] => 0
  | d :: r => uptoBulk d + uptoBulkAll r
def uptoBulkEntries {H : Type} : List (Lit × DataW H) → Nat
  | [] => 0
  | x :: r => uptoBulkEntry x + uptoBulkEntries r
def uptoBulkEntry {H : Type} : Lit × DataW H → Nat
  | (.string bytes, d) => bytes.length + uptoBulk d + 1
  | (_, d) => uptoBulk d + 1
 end
def uptoSmall : (H : Type) → List (DataW H) → Bool := fun _ ds => decide (uptoBulkAll ds ≤ 1048576)
def OpenSpec.upto (s : _root_.Go.ChangeSpec) : _root_.Go.OpenSpec := { _root_.Go.OpenSpec.ofChange s with cond := some uptoSmall }

/-- 'sidinglaw23.BlameDoes', WHERE WHAT IT READS IS OF BULK AT MOST 1048576: true; the input reads as it did. -/
def blameDoesUptoRow : OpenClaim := { program := "ytaifdgfegloafaa", sum := "1fe92a559439537b3a67e6cb86081f57d21e97deb2b55e905d166d3c56bc510d", func := "siding/sidinglaw23.BlameDoes", spec := "blameDoes", inPlace := ["internal/bytealg.IndexByteString", "internal/abi.NoEscape", "internal/bytealg.MakeNoZero"], unfollowed := true, recurses := true, apart := false, narrowed := true }
def BlameDoesUptoSaid : Prop := blameDoesUptoRow.holds Try.pinned (OpenSpec.upto blameDoesSpec)

/-- 'sidinglaw23.BlameNames', WHERE WHAT IT READS IS OF BULK AT MOST 1048576: true; the input reads as it did. -/
def blameNamesUptoRow : OpenClaim := { program := "ytaifdgfegloafaa", sum := "1fe92a559439537b3a67e6cb86081f57d21e97deb2b55e905d166d3c56bc510d", func := "siding/sidinglaw23.BlameNames", spec := "blameNames", inPlace := ["internal/bytealg.IndexByteString", "internal/abi.NoEscape", "internal/bytealg.MakeNoZero"], unfollowed := true, recurses := true, apart := false, narrowed := true }
def BlameNamesUptoSaid : Prop := blameNamesUptoRow.holds Try.pinned (OpenSpec.upto blameNamesSpec)

/-- 'sidinglaw23.BlameLines', WHERE WHAT IT READS IS OF BULK AT MOST 1048576: true; the input reads as it did. -/
def blameLinesUptoRow : OpenClaim := { program := "ytaifdgfegloafaa", sum := "1fe92a559439537b3a67e6cb86081f57d21e97deb2b55e905d166d3c56bc510d", func := "siding/sidinglaw23.BlameLines", spec := "blameLines", inPlace := ["internal/bytealg.IndexByteString", "internal/abi.NoEscape", "internal/bytealg.MakeNoZero"], unfollowed := true, recurses := true, apart := false, narrowed := true }
def BlameLinesUptoSaid : Prop := blameLinesUptoRow.holds Try.pinned (OpenSpec.upto blameLinesSpec)

/-- 'sidinglaw23.BlameTraces', WHERE WHAT IT READS IS OF BULK AT MOST 1048576: true; the input reads as it did. -/
def blameTracesUptoRow : OpenClaim := { program := "ytaifdgfegloafaa", sum := "1fe92a559439537b3a67e6cb86081f57d21e97deb2b55e905d166d3c56bc510d", func := "siding/sidinglaw23.BlameTraces", spec := "blameTraces", inPlace := ["internal/bytealg.IndexByteString", "internal/abi.NoEscape", "internal/bytealg.MakeNoZero"], unfollowed := true, recurses := true, apart := false, narrowed := true }
def BlameTracesUptoSaid : Prop := blameTracesUptoRow.holds Try.pinned (OpenSpec.upto blameTracesSpec)

/-- 'sidinglaw23.BlameMore', WHERE WHAT IT READS IS OF BULK AT MOST 1048576: true; the input reads as it did. -/
def blameMoreUptoRow : OpenClaim := { program := "ytaifdgfegloafaa", sum := "1fe92a559439537b3a67e6cb86081f57d21e97deb2b55e905d166d3c56bc510d", func := "siding/sidinglaw23.BlameMore", spec := "blameMore", inPlace := ["internal/bytealg.IndexByteString", "internal/abi.NoEscape", "internal/bytealg.MakeNoZero"], unfollowed := true, recurses := true, apart := false, narrowed := true }
def BlameMoreUptoSaid : Prop := blameMoreUptoRow.holds Try.pinned (OpenSpec.upto blameMoreSpec)

end Rows
end Go.Proofs.Ytaifdgfegloafaa
