/- The chapter's examples of lcs hold: what the laws take of them. -/
import Derived.Test.YtcmcleoghbjboaaSAl14
namespace Go.Proofs.Ytcmcleoghbjboaa.Pr
open Go.RowKit Go.Proofs.YtcmcleoghbjboaaW.PrintWords Go.Proofs.YtcmcleoghbjboaaW.PrintLast Go.Proofs.YtcmcleoghbjboaaW.PrintMore
def law14_alive.f : Option (Bool) := some true
theorem law14_alive.calls (r : Bool) (w : World) (h : law14_alive.f = some r) :
    Calls Try.prog 8 #[] w fun e w' => e = .returned (.bool r) ∧ Below w.heap.size w w' := by
  obtain rfl : true = r := Option.some.inj h
  obtain ⟨k, hk⟩ := alive14_ev.rounds
  exact sidinglaw14_alive.calls k true w hk ⟨rfl⟩
end Go.Proofs.Ytcmcleoghbjboaa.Pr
