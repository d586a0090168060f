/- LcsMetric: the distance is a metric. Conditions: none beyond the statement's own. -/
import Derived.Test.YtbhpkkbemildnaaSLaw14
import Derived.Test.YtbhpkkbemildnaaF7
namespace Go.Proofs.Ytbhpkkbemildnaa.Pure
open Go.RowKit Go.Proofs.YtbhpkkbemildnaaW.PrintWords Go.Proofs.YtbhpkkbemildnaaW.PrintLast Go.Proofs.YtbhpkkbemildnaaW.PrintMore Go.Proofs.Ytbhpkkbemildnaa.Pr
set_option linter.unusedVariables false
set_option linter.unusedSimpArgs false

theorem LcsMetric : sidinglaw14_LcsMetric.Pure := by
  intro a b c ha hb hc
  apply Ev.rounds (g := fun k => sidinglaw14_LcsMetric.f k a b c)
  unfold sidinglaw14_LcsMetric.f
  have hla : a.length ≤ 9000000000000000000 := by omega
  have hlb : b.length ≤ 9000000000000000000 := by omega
  have hlc : c.length ≤ 9000000000000000000 := by omega
  have yes : Ev (fun k => sidinglaw14_LcsMetric.j0 k a b c true true) true := Ev.step (fun k => by rw [sidinglaw14_LcsMetric.j0]) (Ev.pos rfl (Ev.now _))
  refine Ev.bd alive14_ev (Ev.bd (fit_ev a b hla hlb) ?_)
  by_cases h1 : fitB a b = true
  · refine Ev.pos h1 (Ev.bd (fit_ev b c hlb hlc) ?_)
    by_cases h2 : fitB b c = true
    · refine Ev.pos h2 ?_
      obtain ⟨ta, tb, e1⟩ := fitB_true h1
      obtain ⟨_, tc, e2⟩ := fitB_true h2
      obtain ⟨za, zb⟩ := bothErr_zero.1 e1
      obtain ⟨_, zc⟩ := bothErr_zero.1 e2
      obtain ⟨la, _⟩ := linesErr_zero za
      obtain ⟨lb, _⟩ := linesErr_zero zb
      obtain ⟨lc, _⟩ := linesErr_zero zc
      have d1 := distance_ev a b ta.small tb.small
      have d2 := distance_ev b c tb.small tc.small
      have d3 := distance_ev a c ta.small tc.small
      have d4 := distance_ev b a tb.small ta.small
      rw [if_pos e1] at d1
      rw [if_pos e2] at d2
      rw [if_pos (bothErr_zero.2 ⟨za, zc⟩)] at d3
      rw [if_pos (bothErr_zero.2 ⟨zb, za⟩)] at d4
      have s1 := lcsLen_comm a b
      have s2 := lcsLen_triangle a b c
      have g1 := lcsLen_le_left a b
      have g2 := lcsLen_le_right a b
      have g3 := lcsLen_le_left b c
      have g4 := lcsLen_le_right b c
      have g5 := lcsLen_le_left a c
      have g6 := lcsLen_le_right a c
      refine Ev.step (fun k => by rw [sidinglaw14_LcsMetric.j0]) ?_
      refine Ev.neg (by decide) (Ev.bd d1 (Ev.bd d2 (Ev.bd d3 (Ev.bd d4 (Ev.pos rfl (Ev.pos rfl (Ev.pos rfl (Ev.pos rfl (Ev.pos rfl (Ev.pos ?_ (Ev.pos ?_ (Ev.bd (same_ev a b hla) (Ev.pos ?_ (Ev.rt ?_))))))))))))))
      · show ((a.length + b.length - 2 * lcsLen a b : Nat) : Int) = ((b.length + a.length - 2 * lcsLen b a : Nat) : Int)
        omega
      · show ((a.length + b.length - 2 * lcsLen a b : Nat) : Int) ≥ 0
        omega
      · show ((((a.length + b.length - 2 * lcsLen a b : Nat) : Int) == 0) == decide (a = b)) = true
        rw [beq_iff_eq, Bool.eq_iff_iff, beq_iff_eq, decide_eq_true_iff]
        constructor
        · intro h
          exact lcsLen_full (by omega) (by omega)
        · intro h
          subst h
          have := lcsLen_self a
          omega
      · show decide (((a.length + c.length - 2 * lcsLen a c : Nat) : Int) ≤ wrap64 (((a.length + b.length - 2 * lcsLen a b : Nat) : Int) + ((b.length + c.length - 2 * lcsLen b c : Nat) : Int))) = true
        rw [w64 (by omega), decide_eq_true_iff]
        omega
    · exact Ev.neg h2 yes
  · exact Ev.neg h1 yes
end Go.Proofs.Ytbhpkkbemildnaa.Pure
