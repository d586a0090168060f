/- The chapter's examples of lines hold: what the laws take of them. -/
import Derived.Test.YtnajpgimhoighaaSLaw16
namespace Go.Proofs.Ytnajpgimhoighaa.Pr
open Go.RowKit Go.Proofs.YtnajpgimhoighaaW.PrintWords Go.Proofs.YtnajpgimhoighaaW.PrintLast Go.Proofs.YtnajpgimhoighaaW.PrintMore
def law16_alive.f : Option (Bool) := some true
theorem law16_alive.calls (r : Bool) (w : World) (h : law16_alive.f = some r) :
    Calls Try.prog 20 #[] w fun e w' => e = .returned (.bool r) ∧ Below w.heap.size w w' := by
  obtain rfl : true = r := Option.some.inj h
  obtain ⟨k, hk⟩ := alive16_ev.rounds
  exact sidinglaw16_alive.calls k true w hk ⟨rfl⟩
end Go.Proofs.Ytnajpgimhoighaa.Pr
