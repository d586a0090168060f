/- The error of two lists, by the reference. -/
import Derived.Test.YtnajpgimhoighaaSRef
import Derived.Test.YtnajpgimhoighaaSLcs
import Derived.Test.YtnajpgimhoighaaF24
namespace Go.Proofs.Ytnajpgimhoighaa.Pr
open Go.RowKit Go.Proofs.YtnajpgimhoighaaW.PrintWords Go.Proofs.YtnajpgimhoighaaW.PrintLast Go.Proofs.YtnajpgimhoighaaW.PrintMore
set_option linter.unusedVariables false
set_option linter.unusedSimpArgs false

theorem both_ev (a b : List ByteArray) (ha : tiny a) (hb : tiny b) : Ev (fun k => sidingref14_Both.f k a b) (bothErr a b) := by
  unfold sidingref14_Both.f bothErr
  refine Ev.bd (rlines_ev a ha) ?_
  by_cases h : linesErr a = 0
  · rw [if_pos h]
    exact Ev.pos h (Ev.bd (rlines_ev b hb) (Ev.now _))
  · exact Ev.neg h (Ev.bd (rlines_ev a ha) (Ev.rt (if_neg h).symm))
end Go.Proofs.Ytnajpgimhoighaa.Pr
