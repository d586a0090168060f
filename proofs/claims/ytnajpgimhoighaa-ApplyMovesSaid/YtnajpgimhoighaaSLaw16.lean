/- The chapter's examples of apply hold. -/
import Derived.Test.YtnajpgimhoighaaSApplyD
import Derived.Test.YtnajpgimhoighaaF20
namespace Go.Proofs.Ytnajpgimhoighaa.Pr
open Go.RowKit Go.Proofs.YtnajpgimhoighaaW.PrintWords Go.Proofs.YtnajpgimhoighaaW.PrintLast Go.Proofs.YtnajpgimhoighaaW.PrintMore
set_option linter.unusedVariables false
set_option linter.unusedSimpArgs false

theorem Ev.of_mono {α : Type} {g : Nat → Option α} {r : α} (hm : ∀ k, LeO (g k) (g (k + 1))) (K : Nat) (h : g K = some r) : Ev g r :=
  ⟨K, fun k hk => by
    induction k with
    | zero => obtain rfl : K = 0 := by omega
              exact h
    | succ k ih =>
      by_cases e : K = k + 1
      · subst e; exact h
      · exact hm k r (ih (by omega))⟩
theorem alive16_ev : Ev (fun k => sidinglaw16_alive.f k) true := Ev.of_mono sidinglaw16_alive.mono 60 (by kernel_rfl)
end Go.Proofs.Ytnajpgimhoighaa.Pr
