/- The error of two lists, by the reference. -/
import Derived.Test.YtbhpkkbemildnaaSRef
import Derived.Test.YtbhpkkbemildnaaSLcs
import Derived.Test.YtbhpkkbemildnaaF38
namespace Go.Proofs.Ytbhpkkbemildnaa.Pr
open Go.RowKit Go.Proofs.YtbhpkkbemildnaaW.PrintWords Go.Proofs.YtbhpkkbemildnaaW.PrintLast Go.Proofs.YtbhpkkbemildnaaW.PrintMore
set_option linter.unusedVariables false
set_option linter.unusedSimpArgs false

theorem both_ev (a b : List ByteArray) (ha : tiny a) (hb : tiny b) : Ev (fun k => sidingref14_Both.f k a b) (bothErr a b) := by
  unfold sidingref14_Both.f bothErr
  refine Ev.bd (rlines_ev a ha) ?_
  by_cases h : linesErr a = 0
  · rw [if_pos h]
    exact Ev.pos h (Ev.bd (rlines_ev b hb) (Ev.now _))
  · exact Ev.neg h (Ev.bd (rlines_ev a ha) (Ev.rt (if_neg h).symm))
end Go.Proofs.Ytbhpkkbemildnaa.Pr
