/- LcsFinds: Length, Best and Distance return what the reference returns, and leave the lists as they are. Conditions: none beyond the statement's own. -/
import Derived.Test.YtbhpkkbemildnaaSFound
import Derived.Test.YtbhpkkbemildnaaSLaw14
import Derived.Test.YtbhpkkbemildnaaF5
namespace Go.Proofs.Ytbhpkkbemildnaa.Pure
open Go.RowKit Go.Proofs.YtbhpkkbemildnaaW.PrintWords Go.Proofs.YtbhpkkbemildnaaW.PrintLast Go.Proofs.YtbhpkkbemildnaaW.PrintMore Go.Proofs.Ytbhpkkbemildnaa.Pr
set_option linter.unusedVariables false
set_option linter.unusedSimpArgs false

theorem LcsFinds : sidinglaw14_LcsFinds.Pure := by
  intro a b ha hb
  apply Ev.rounds (g := fun k => sidinglaw14_LcsFinds.f k a b)
  unfold sidinglaw14_LcsFinds.f
  have hla : a.length ≤ 9000000000000000000 := by omega
  have hlb : b.length ≤ 9000000000000000000 := by omega
  refine Ev.bd (long2_ev a b hla hlb) ?_
  by_cases h1 : (longOf a || longOf b) = true
  · exact Ev.pos h1 (Ev.now _)
  · refine Ev.neg h1 (Ev.bs (Ev.pos (by simp only [List.length_nil]; omega) (Ev.bs (Ev.bs (Ev.pos (by simp only [List.length_nil]; omega) (Ev.bs ?_))))))
    rw [List.nil_append, List.nil_append]
    rw [Bool.not_eq_true, Bool.or_eq_false_iff] at h1
    obtain ⟨na, ta⟩ := longOf_tiny h1.1
    obtain ⟨nb, tb⟩ := longOf_tiny h1.2
    refine Ev.bd (best_ev a b ta.small tb.small) (Ev.bd (rbest_ev a b ta tb) (Ev.bd (length_ev a b ta.small tb.small) (Ev.bd (rlength_ev a b ta tb) (Ev.bd (distance_ev a b ta.small tb.small) (Ev.bd (rdistance_ev a b ta tb) ?_)))))
    have hl := best_le a b
    refine Ev.bd (rsame_ev _ ?_) (Ev.pos rfl (Ev.pos rfl (Ev.pos rfl (Ev.pos rfl (Ev.pos rfl (Ev.pos rfl (Ev.bd (same_ev a a hla) (Ev.pos (by simp) (Ev.bd (same_ev b b hlb) (Ev.rt ?_))))))))))
    · split
      · show ((bestOf a b).map prOf).length ≤ _
        rw [List.length_map]
        omega
      · simp
    · simp
end Go.Proofs.Ytbhpkkbemildnaa.Pure
