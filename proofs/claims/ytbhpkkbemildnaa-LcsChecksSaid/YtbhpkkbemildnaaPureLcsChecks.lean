/- LcsChecks: Check returns what the reference returns. Conditions: none beyond the statement's own. -/
import Derived.Test.YtbhpkkbemildnaaSLaw14
import Derived.Test.YtbhpkkbemildnaaSMatch
import Derived.Test.YtbhpkkbemildnaaF4
namespace Go.Proofs.Ytbhpkkbemildnaa.Pure
open Go.RowKit Go.Proofs.YtbhpkkbemildnaaW.PrintWords Go.Proofs.YtbhpkkbemildnaaW.PrintLast Go.Proofs.YtbhpkkbemildnaaW.PrintMore Go.Proofs.Ytbhpkkbemildnaa.Pr
set_option linter.unusedVariables false
set_option linter.unusedSimpArgs false

theorem LcsChecks : sidinglaw14_LcsChecks.Pure := by
  intro a b m ha hb hm
  apply Ev.rounds (g := fun k => sidinglaw14_LcsChecks.f k a b m)
  unfold sidinglaw14_LcsChecks.f
  have hla : a.length ≤ 9000000000000000000 := by omega
  have hlb : b.length ≤ 9000000000000000000 := by omega
  have yes : Ev (fun k => sidinglaw14_LcsChecks.j0 k a b m true) true := Ev.step (fun k => by rw [sidinglaw14_LcsChecks.j0]) (Ev.pos rfl (Ev.now _))
  refine Ev.bd (long2_ev a b hla hlb) ?_
  by_cases h1 : (longOf a || longOf b) = true
  · exact Ev.pos h1 yes
  · refine Ev.neg h1 ?_
    by_cases h2 : (m.length : Int) > 100
    · rw [decide_eq_true h2]
      exact yes
    · rw [decide_eq_false h2]
      simp only [Bool.or_eq_true, not_or, Bool.not_eq_true] at h1
      obtain ⟨_, ta⟩ := longOf_tiny h1.1
      obtain ⟨_, tb⟩ := longOf_tiny h1.2
      refine Ev.step (fun k => by rw [sidinglaw14_LcsChecks.j0]) ?_
      refine Ev.neg (by decide) (Ev.bc (check_val a b m ta.small tb.small) (Ev.bd (rcheck_ev a b m ta tb (by omega)) (Ev.rt ?_)))
      simp
end Go.Proofs.Ytbhpkkbemildnaa.Pure
