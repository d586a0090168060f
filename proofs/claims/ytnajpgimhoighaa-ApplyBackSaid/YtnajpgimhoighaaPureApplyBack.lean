/- ApplyBack, the plain side: a list and its inverse undo each other, and the inverse of the inverse is the list. -/
import Derived.Test.YtnajpgimhoighaaSFit16
import Derived.Test.YtnajpgimhoighaaF5
namespace Go.Proofs.Ytnajpgimhoighaa.Pure
open Go Go.RowKit Go.Proofs.Ytnajpgimhoighaa.Pr Go.Proofs.YtnajpgimhoighaaW.PrintWords Go.Proofs.YtnajpgimhoighaaW.PrintLast Go.Proofs.YtnajpgimhoighaaW.PrintMore
set_option linter.unusedVariables false
set_option linter.unusedSimpArgs false

theorem ApplyBack : sidinglaw16_ApplyBack.Pure := by
  intro a l wa wl
  obtain ⟨wl1, wl2⟩ := wf_lens wl
  have main : Ev (fun k => sidinglaw16_ApplyBack.f k a l) true := by
    unfold sidinglaw16_ApplyBack.f law16_alive.f
    refine Ev.bs (Ev.bd (fit_ev a l (by omega) wl1 wl2) ?_)
    cases hfit : fitB a l with
    | false =>
      refine Ev.neg (by decide) (Ev.step (fun k => by rw [sidinglaw16_ApplyBack.j0]) ?_)
      exact Ev.pos rfl (Ev.now _)
    | true =>
      obtain ⟨ta, tl, h1, h2⟩ := fitB_true hfit
      refine Ev.pos rfl (Ev.step (fun k => by rw [sidinglaw16_ApplyBack.j0]) ?_)
      refine Ev.neg (by decide) (Ev.bd (invert_ev l) ?_)
      unfold invL
      rw [if_pos h2]
      cases hr : invFrom 0 l with
      | none =>
        refine Ev.neg (by decide) (Ev.pos rfl (Ev.pos rfl (Ev.rt rfl)))
      | some r =>
        obtain ⟨i1, i2⟩ := inv_inv h2 hr
        have tr : ∀ x ∈ r, tinyH x := fun x hx => by
          obtain ⟨y, hy, e1, e2⟩ := inv_mem hr x hx
          obtain ⟨t1, t2, t3, t4⟩ := tl y hy
          exact ⟨by rw [e1]; exact t2, by rw [e2]; exact t1, by rw [e1]; exact t4, by rw [e2]; exact t3⟩
        have hle := (checkL_zero h2).1
        refine Ev.pos rfl (Ev.bd (invert_ev r) ?_)
        unfold invL
        rw [if_pos i1, i2]
        refine Ev.pos rfl (Ev.bd (hsame_ev l l (by omega) (fun x hx => by obtain ⟨_, _, t3, t4⟩ := tl x hx; omega)) ?_)
        refine Ev.pos (by simp) (Ev.bd (rcheck_ev r tr) ?_)
        rw [i1]
        refine Ev.step (fun k => by rw [sidinglaw16_ApplyBack.j1]) ?_
        refine Ev.neg (by decide) (Ev.bd (exact_ev a l ta tl) ?_)
        have hb : bothE a l = 0 := by unfold bothE; rw [if_pos h1, h2]
        unfold exactL
        rw [if_pos hb]
        cases hf : fitsL a l with
        | false =>
          refine Ev.neg (by simp) (Ev.pos rfl (Ev.rt (by simp)))
        | true =>
          rw [if_pos rfl]
          unfold finL
          by_cases h4 : linesErr (applL a l) = 0
          · rw [if_pos h4]
            obtain ⟨b1, b2⟩ := exact_back h2 hf hr
            have tb : tiny (applL a l) := putL_tiny ta (fun x hx => (tl x hx).2.1)
            refine Ev.pos rfl (Ev.bd (exact_ev (applL a l) r tb tr) ?_)
            have hb2 : bothE (applL a l) r = 0 := by unfold bothE; rw [if_pos h4, i1]
            unfold exactL
            rw [if_pos hb2, if_pos b1, b2]
            unfold finL
            rw [if_pos h1]
            have h60 := linesErr_len h1
            obtain ⟨c1, c2, c3⟩ := fits_conds h2
            refine Ev.pos rfl (Ev.pos rfl (Ev.bd (same_ev a a (by omega)) (Ev.pos (by simp) (Ev.bd (fits_ev a l (by omega) (by omega) c1) ?_))))
            rw [hf]
            exact Ev.now _
          · rw [if_neg h4]
            exact Ev.neg h4 (Ev.pos rfl (Ev.rt rfl))
  obtain ⟨k, hk⟩ := main.rounds
  exact ⟨k, hk⟩
end Go.Proofs.Ytnajpgimhoighaa.Pure
