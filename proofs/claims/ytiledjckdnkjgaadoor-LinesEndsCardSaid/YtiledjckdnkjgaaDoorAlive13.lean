/- The chapter's examples of lines hold: what the laws take of them. -/
import Derived.Test.YtiledjckdnkjgaaDoorSLaw13
namespace Go.Proofs.YtiledjckdnkjgaaDoor.Pr
open Go.RowKit Go.Proofs.YtiledjckdnkjgaaDoorW.PrintWords Go.Proofs.YtiledjckdnkjgaaDoorW.PrintLast Go.Proofs.YtiledjckdnkjgaaDoorW.PrintMore
def law13_alive.f : Option (Bool) := some true
theorem law13_alive.calls (r : Bool) (w : World) (h : law13_alive.f = some r) :
    Calls Tryd.prog 8 #[] w fun e w' => e = .returned (.bool r) ∧ Below w.heap.size w w' := by
  obtain rfl : true = r := Option.some.inj h
  obtain ⟨k, hk⟩ := alive13_ev.rounds
  exact sidinglaw13_alive.calls k true w hk ⟨rfl⟩
end Go.Proofs.YtiledjckdnkjgaaDoor.Pr
