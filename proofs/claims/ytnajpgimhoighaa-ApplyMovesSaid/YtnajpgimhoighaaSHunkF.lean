/- What the reference's Fits computes. -/
import Derived.Test.YtnajpgimhoighaaSHunkD
import Derived.Test.YtnajpgimhoighaaF23
namespace Go.Proofs.Ytnajpgimhoighaa.Pr
open Go.RowKit Go.Proofs.YtnajpgimhoighaaW.PrintWords Go.Proofs.YtnajpgimhoighaaW.PrintLast Go.Proofs.YtnajpgimhoighaaW.PrintMore
set_option linter.unusedVariables false
set_option linter.unusedSimpArgs false

theorem fits_loop (a : List ByteArray) (l : List S46) (ha : a.length ≤ 1000000) (hl : l.length ≤ 1000000) (hv : ∀ h ∈ l, 0 ≤ h.f0 ∧ h.f0 ≤ 1000000 ∧ h.f1.length ≤ 1000000) : ∀ (d i : Nat), i + d = l.length →
    Ev (fun k => sidingref15_Fits.l0 k a l (i : Int)) (fitsL a (l.drop i)) := by
  intro d
  induction d with
  | zero =>
    intro i hi
    obtain rfl : i = l.length := by omega
    refine Ev.step (fun k => by rw [sidingref15_Fits.l0]) ?_
    refine Ev.neg (by omega) (Ev.rt ?_)
    rw [List.drop_length]
    rfl
  | succ d ih =>
    intro i hi
    have h : i < l.length := by omega
    obtain ⟨v1, v2, v3⟩ := hv _ (List.getElem_mem h)
    refine Ev.step (fun k => by rw [sidingref15_Fits.l0]) ?_
    refine Ev.pos (by omega) (Ev.pos (by omega) ?_)
    rw [rd_h _ _ h, drop_at l i h, w64 (x := l[i].f0 + (l[i].f1.length : Int)) (by omega)]
    unfold fitsL
    rw [List.all_cons]
    unfold fitsAt
    by_cases hf : l[i].f0 + (l[i].f1.length : Int) ≤ (a.length : Int)
    · refine Ev.neg (by omega) (Ev.pos v1 (Ev.pos (by omega) (Ev.pos hf (Ev.bd (same_ev _ _ (by rw [List.length_drop, List.length_take]; omega)) ?_))))
      rw [decide_eq_true hf, Bool.true_and]
      by_cases hs : (a.take (l[i].f0 + (l[i].f1.length : Int)).toNat).drop l[i].f0.toNat = l[i].f1
      · rw [decide_eq_true hs, Bool.true_and]
        refine Ev.pos rfl ?_
        rw [w64 (by omega)]
        exact ih (i + 1) (by omega)
      · rw [decide_eq_false hs]
        exact Ev.neg (by decide) (Ev.rt rfl)
    · refine Ev.pos (by omega) (Ev.rt ?_)
      rw [decide_eq_false hf]
      rfl
theorem fits_ev (a : List ByteArray) (l : List S46) (ha : a.length ≤ 1000000) (hl : l.length ≤ 1000000) (hv : ∀ h ∈ l, 0 ≤ h.f0 ∧ h.f0 ≤ 1000000 ∧ h.f1.length ≤ 1000000) : Ev (fun k => sidingref15_Fits.f k a l) (fitsL a l) := by
  have h := fits_loop a l ha hl hv l.length 0 (by omega)
  rw [List.drop_zero] at h
  exact h
end Go.Proofs.Ytnajpgimhoighaa.Pr
