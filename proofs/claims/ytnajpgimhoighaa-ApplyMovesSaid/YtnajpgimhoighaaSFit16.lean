/- What the laws of apply consider. -/
import Derived.Test.YtnajpgimhoighaaSBoth16
import Derived.Test.YtnajpgimhoighaaF21
namespace Go.Proofs.Ytnajpgimhoighaa.Pr
open Go.RowKit Go.Proofs.YtnajpgimhoighaaW.PrintWords Go.Proofs.YtnajpgimhoighaaW.PrintLast Go.Proofs.YtnajpgimhoighaaW.PrintMore
set_option linter.unusedVariables false
set_option linter.unusedSimpArgs false

/-- Lines and hunks that the statements consider. -/
def fitB (a : List ByteArray) (l : List S46) : Bool := !longOf a && !hlong l && (bothE a l == 0)
theorem fit_ev (a : List ByteArray) (l : List S46) (ha : a.length ≤ 9000000000000000000) (hl : l.length ≤ 9000000000000000000) (ht : ∀ h ∈ l, h.f1.length ≤ 9000000000000000000 ∧ h.f2.length ≤ 9000000000000000000) : Ev (fun k => sidinglaw16_fit.f k a l) (fitB a l) := by
  unfold sidinglaw16_fit.f fitB
  refine Ev.bd (long_ev a ha) ?_
  cases h1 : longOf a with
  | true => exact Ev.pos rfl (Ev.rt rfl)
  | false =>
    refine Ev.neg (by decide) (Ev.bd (hlong_ev l hl ht) ?_)
    cases h2 : hlong l with
    | true => exact Ev.pos rfl (Ev.rt rfl)
    | false => exact Ev.neg (by decide) (Ev.bd (rboth_ev a l (longOf_tiny h1).2 (hlong_tiny h2)) (Ev.rt (by simp)))
theorem fitB_true {a : List ByteArray} {l : List S46} (h : fitB a l = true) : tiny a ∧ (∀ x ∈ l, tinyH x) ∧ linesErr a = 0 ∧ checkL l = 0 := by
  unfold fitB at h
  simp only [Bool.and_eq_true, Bool.not_eq_true', beq_iff_eq] at h
  obtain ⟨⟨h1, h2⟩, h3⟩ := h
  obtain ⟨h4, h5⟩ := bothE_zero h3
  exact ⟨(longOf_tiny h1).2, hlong_tiny h2, h4, h5⟩
theorem wf_lens {l : List S46} (w : l.length * 56 ≤ 140737488351232 ∧ ∀ x0_ ∈ l, ((Lit.int .i64 x0_.f0).wf = true) ∧ (x0_.f1.length * 16 ≤ 140737488351232 ∧ ∀ x1_ ∈ x0_.f1, x1_.size ≤ 140737488351232) ∧ (x0_.f2.length * 16 ≤ 140737488351232 ∧ ∀ x1_ ∈ x0_.f2, x1_.size ≤ 140737488351232)) :
    l.length ≤ 9000000000000000000 ∧ ∀ h ∈ l, h.f1.length ≤ 9000000000000000000 ∧ h.f2.length ≤ 9000000000000000000 := by
  refine ⟨by omega, fun h hh => ?_⟩
  obtain ⟨_, ⟨h1, _⟩, ⟨h2, _⟩⟩ := w.2 h hh
  omega
end Go.Proofs.Ytnajpgimhoighaa.Pr
