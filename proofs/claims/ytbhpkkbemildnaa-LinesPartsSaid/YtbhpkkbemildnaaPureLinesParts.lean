/- LinesParts: Common and Replace return what the reference returns, and leave the lists as they are. Conditions: none beyond the statement's own. -/
import Derived.Test.YtbhpkkbemildnaaSParts
import Derived.Test.YtbhpkkbemildnaaF3
namespace Go.Proofs.Ytbhpkkbemildnaa.Pure
open Go.RowKit Go.Proofs.YtbhpkkbemildnaaW.PrintWords Go.Proofs.YtbhpkkbemildnaaW.PrintLast Go.Proofs.YtbhpkkbemildnaaW.PrintMore Go.Proofs.Ytbhpkkbemildnaa.Pr
set_option linter.unusedVariables false
set_option linter.unusedSimpArgs false

theorem LinesParts : sidinglaw13_LinesParts.Pure := by
  intro a b p q ha hb hp hq
  apply Ev.rounds (g := fun k => sidinglaw13_LinesParts.f k a b p q)
  unfold sidinglaw13_LinesParts.f
  have hla : a.length ≤ 9000000000000000000 := by omega
  have hlb : b.length ≤ 9000000000000000000 := by omega
  have yes : Ev (fun k => sidinglaw13_LinesParts.j0 k a b p q true) true := Ev.step (fun k => by rw [sidinglaw13_LinesParts.j0]) (Ev.pos rfl (Ev.now _))
  refine Ev.bd (long_ev a hla) ?_
  by_cases h1 : longOf a = true
  · exact Ev.pos h1 yes
  · refine Ev.neg h1 (Ev.bd (long_ev b hlb) ?_)
    by_cases h2 : longOf b = true
    · rw [h2]
      exact yes
    · rw [Bool.eq_false_iff.2 h2]
      obtain ⟨na, ta⟩ := longOf_tiny (Bool.eq_false_iff.2 h1)
      obtain ⟨nb, tb⟩ := longOf_tiny (Bool.eq_false_iff.2 h2)
      refine Ev.step (fun k => by rw [sidinglaw13_LinesParts.j0]) ?_
      refine Ev.neg (by decide) (Ev.bs (Ev.pos (by simp only [List.length_nil]; omega) (Ev.bs (Ev.bs (Ev.pos (by simp only [List.length_nil]; omega) (Ev.bs ?_))))))
      rw [List.nil_append, List.nil_append]
      refine Ev.bd (common_ev a b ta.small tb.small) (Ev.bd (rcommon_ev a b ta tb) (Ev.bd (replace_ev a p q b ta.small tb.small (by omega)) (Ev.bd (rreplace_ev a p q b ta tb (by omega)) ?_)))
      have hlen : (replaceR a p q b).1.length ≤ 9000000000000000000 := by
        unfold replaceR
        split
        · split
          · simp
          · split
            · simp
            · split
              · simp only [List.length_append, List.length_take, List.length_drop]
                omega
              · simp
        · simp
      refine Ev.pos rfl (Ev.pos rfl (Ev.pos rfl (Ev.bd (same_ev _ _ hlen) (Ev.pos (by simp) (Ev.pos rfl (Ev.bd (same_ev a a hla) (Ev.pos (by simp) (Ev.bd (same_ev b b hlb) (Ev.rt ?_)))))))))
      simp
end Go.Proofs.Ytbhpkkbemildnaa.Pure
