/- The error of lines and hunks, by the reference. -/
import Derived.Test.YtnajpgimhoighaaSHunkC
import Derived.Test.YtnajpgimhoighaaSApplyD
import Derived.Test.YtnajpgimhoighaaF29
namespace Go.Proofs.Ytnajpgimhoighaa.Pr
open Go.RowKit Go.Proofs.YtnajpgimhoighaaW.PrintWords Go.Proofs.YtnajpgimhoighaaW.PrintLast Go.Proofs.YtnajpgimhoighaaW.PrintMore
set_option linter.unusedVariables false
set_option linter.unusedSimpArgs false

theorem rboth_ev (a : List ByteArray) (l : List S46) (ha : tiny a) (hl : ∀ h ∈ l, tinyH h) : Ev (fun k => sidingref16_Both.f k a l) (bothE a l) := by
  unfold sidingref16_Both.f bothE
  refine Ev.bd (rlines_ev a ha) ?_
  by_cases h : linesErr a = 0
  · rw [if_pos h]
    exact Ev.pos h (Ev.bd (rcheck_ev l hl) (Ev.now _))
  · rw [if_neg h]
    exact Ev.neg h (Ev.bd (rlines_ev a ha) (Ev.now _))
end Go.Proofs.Ytnajpgimhoighaa.Pr
