/- LcsBest: the best matching is one, none has more pairs, and none with as many comes before it. Conditions: none beyond the statement's own. -/
import Derived.Test.YtbhpkkbemildnaaSBefore
import Derived.Test.YtbhpkkbemildnaaSMatchB
import Derived.Test.YtbhpkkbemildnaaF9
namespace Go.Proofs.Ytbhpkkbemildnaa.Pure
open Go.RowKit Go.Proofs.YtbhpkkbemildnaaW.PrintWords Go.Proofs.YtbhpkkbemildnaaW.PrintLast Go.Proofs.YtbhpkkbemildnaaW.PrintMore Go.Proofs.Ytbhpkkbemildnaa.Pr
set_option linter.unusedVariables false
set_option linter.unusedSimpArgs false

theorem LcsBest : sidinglaw14_LcsBest.Pure := by
  intro a b m ha hb hm
  apply Ev.rounds (g := fun k => sidinglaw14_LcsBest.f k a b m)
  unfold sidinglaw14_LcsBest.f
  have hla : a.length ≤ 9000000000000000000 := by omega
  have hlb : b.length ≤ 9000000000000000000 := by omega
  have yes : Ev (fun k => sidinglaw14_LcsBest.j0 k a b m true true) true := Ev.step (fun k => by rw [sidinglaw14_LcsBest.j0]) (Ev.pos rfl (Ev.now _))
  refine Ev.bd alive14_ev (Ev.bd (fit_ev a b hla hlb) ?_)
  by_cases h1 : fitB a b = true
  · refine Ev.pos h1 ?_
    by_cases hlen : 100 < m.length
    · exact Ev.pos (by omega) yes
    · refine Ev.neg (by omega) ?_
      obtain ⟨ta, tb, e1⟩ := fitB_true h1
      obtain ⟨za, zb⟩ := bothErr_zero.1 e1
      obtain ⟨la, _⟩ := linesErr_zero za
      obtain ⟨lb, _⟩ := linesErr_zero zb
      have d1 := best_ev a b ta.small tb.small
      have d2 := length_ev a b ta.small tb.small
      rw [if_pos e1] at d1 d2
      have hbl : (bestOf a b).length = lcsLen a b := bestOf_length a b
      have hle := lcsLen_le_left a b
      have hM := (bestOf_greedy a b).match
      have hmf : matchFrom a b (-1, -1) ((bestOf a b).map prOf) = true := match_from a b hM (-1) (-1) (by omega) (by omega)
      have d3 := matching_ev a b ((bestOf a b).map prOf) (by omega) (by omega) (by simp; omega)
      rw [hmf] at d3
      have d4 : matchErr a b ((bestOf a b).map prOf) = 0 := by
        unfold matchErr
        rw [if_pos e1, if_neg (by simp; omega), if_pos hmf]
      refine Ev.step (fun k => by rw [sidinglaw14_LcsBest.j0]) ?_
      refine Ev.neg (by decide) (Ev.bd d1 (Ev.bd d2 (Ev.pos rfl (Ev.pos rfl (Ev.pos (by simp; omega) (Ev.bd d3 (Ev.pos rfl (Ev.bc (check_val a b _ ta.small tb.small) ?_))))))))
      rw [d4]
      refine Ev.step (fun k => by rw [sidinglaw14_LcsBest.j1]) ?_
      refine Ev.neg (by decide) (Ev.bd (matching_ev a b m (by omega) (by omega) (by omega)) ?_)
      by_cases h2 : matchFrom a b (-1, -1) m = true
      · obtain ⟨n, rfl, hn⟩ := matchFrom_ex a b m (-1) (-1) 0 0 (by omega) (by omega) (by omega) (by omega) h2
        have hnl := hn.length_le
        have hnl2 : n.length ≤ lcsLen a b := hnl
        have hml : (n.map prOf).length = n.length := by simp
        rw [hml]
        refine Ev.pos h2 (Ev.pos rfl (Ev.pos (by show (n.length : Int) ≤ (lcsLen a b : Int); omega) ?_))
        by_cases h3 : n.length < lcsLen a b
        · exact Ev.pos (by show (n.length : Int) < (lcsLen a b : Int); omega) (Ev.now _)
        · refine Ev.neg (by show ¬ (n.length : Int) < (lcsLen a b : Int); omega) (Ev.bd (before_ev n (bestOf a b) (by omega) (by omega)) (Ev.rt ?_))
          rw [(bestOf_greedy a b).first n hn (by omega)]
          rfl
      · exact Ev.neg h2 (Ev.now _)
  · exact Ev.neg h1 yes
end Go.Proofs.Ytbhpkkbemildnaa.Pure
