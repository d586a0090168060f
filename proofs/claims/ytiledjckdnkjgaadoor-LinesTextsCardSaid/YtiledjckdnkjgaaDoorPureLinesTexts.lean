/- LinesTexts: Check, Split and Join return what the reference returns, and leave their arguments as they are. Conditions: none beyond the statement's own. -/
import Derived.Test.YtiledjckdnkjgaaDoorSText
import Derived.Test.YtiledjckdnkjgaaDoorF5
namespace Go.Proofs.YtiledjckdnkjgaaDoor.Pure
open Go.RowKit Go.Proofs.YtiledjckdnkjgaaDoorW.PrintWords Go.Proofs.YtiledjckdnkjgaaDoorW.PrintLast Go.Proofs.YtiledjckdnkjgaaDoorW.PrintMore Go.Proofs.YtiledjckdnkjgaaDoor.Pr
set_option linter.unusedVariables false
set_option linter.unusedSimpArgs false

theorem sameB_val (a : List Int) : sidingref13_SameBytes.f a a = some true := by
  unfold sidingref13_SameBytes.f
  simp
theorem LinesTexts : sidinglaw13_LinesTexts.Pure := by
  intro b l hb hl
  apply Ev.rounds (g := fun k => sidinglaw13_LinesTexts.f k b l)
  unfold sidinglaw13_LinesTexts.f
  have yes : Ev (fun k => sidinglaw13_LinesTexts.j0 k b l true) true := Ev.step (fun k => by rw [sidinglaw13_LinesTexts.j0]) (Ev.pos rfl (Ev.now _))
  by_cases h0 : 5000 < b.length
  · exact Ev.pos (by omega) yes
  · refine Ev.neg (by omega) (Ev.bd (long_ev l (by omega)) ?_)
    by_cases h1 : longOf l = true
    · rw [h1]
      exact yes
    · rw [Bool.eq_false_iff.2 h1]
      obtain ⟨nl, tl⟩ := longOf_tiny (Bool.eq_false_iff.2 h1)
      have ub : u8s b = true := u8s_wf hb.2
      refine Ev.step (fun k => by rw [sidinglaw13_LinesTexts.j0]) ?_
      refine Ev.neg (by decide) (Ev.bs (Ev.pos (by simp only [List.length_nil]; omega) (Ev.bs (Ev.bs (Ev.pos (by simp only [List.length_nil]; omega) (Ev.bs ?_))))))
      rw [List.nil_append, List.nil_append]
      refine Ev.bc (split_val b ub) (Ev.bd (rsplit_ev b (by omega)) (Ev.bc (join_val l tl.small) (Ev.bd (rjoin_ev l tl) (Ev.bc (tcheck_val b ub) (Ev.bd (rtcheck_ev b (by omega)) ?_)))))
      have hlen : ∀ x : List ByteArray × Int, x = (if textErr b = 0 then ((partsOf [] b).map strOfNums, (0 : Int)) else (([] : List ByteArray), textErr b)) → x.1.length ≤ 9000000000000000000 := by
        intro x hx
        rw [hx]
        split
        · rename_i h
          have := textErr_zero h
          show ((partsOf [] b).map strOfNums).length ≤ _
          rw [List.length_map, partsOf_length]
          omega
        · simp
      refine Ev.pos rfl (Ev.bd (same_ev _ _ (hlen _ rfl)) (Ev.pos (by simp) (Ev.pos rfl (Ev.bc (sameB_val _) (Ev.pos rfl (Ev.pos rfl (Ev.bc (sameB_val _) (Ev.pos rfl (Ev.bd (same_ev l l (by omega)) (Ev.rt (by simp)))))))))))
end Go.Proofs.YtiledjckdnkjgaaDoor.Pure
