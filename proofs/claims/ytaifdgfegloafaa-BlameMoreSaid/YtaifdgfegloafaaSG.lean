/- The best matching of two lists, reckoned. -/
import Derived.Test.YtaifdgfegloafaaSLcs
namespace Go.Proofs.Ytaifdgfegloafaa.Pr
open Go.RowKit Go.Proofs.YtaifdgfegloafaaW.PrintWords Go.Proofs.YtaifdgfegloafaaW.PrintLast Go.Proofs.YtaifdgfegloafaaW.PrintMore
set_option linter.unusedVariables false
set_option linter.unusedSimpArgs false

/-- The best matching, reckoned. -/
def gOf (a b : List ByteArray) : Nat → Nat → Nat → List (Nat × Nat)
  | 0, _, _ => []
  | n + 1, i, k => if h : i < a.length ∧ k < b.length then (if a[i] = b[k] then (i, k) :: gOf a b n (i + 1) (k + 1) else betterP (gOf a b n (i + 1) k) (gOf a b n i (k + 1))) else []
theorem gOf_greedy (a b : List ByteArray) : ∀ (n i k : Nat), (a.length - i) + (b.length - k) ≤ n → Greedy a b i k (gOf a b n i k) := by
  intro n
  induction n with
  | zero =>
    intro i k h
    exact .nil i k (LL_end_left a b i k (by omega))
  | succ n ih =>
    intro i k h
    unfold gOf
    by_cases c : i < a.length ∧ k < b.length
    · rw [dif_pos c]
      by_cases e : a[i]'c.1 = b[k]'c.2
      · rw [if_pos e]
        exact Greedy.step_eq c.1 c.2 e (ih (i + 1) (k + 1) (by omega))
      · rw [if_neg e]
        exact Greedy.step_ne c.1 c.2 e (ih (i + 1) k (by omega)) (ih i (k + 1) (by omega))
    · rw [dif_neg c]
      by_cases c1 : i < a.length
      · exact .nil i k (LL_end_right a b i k (by omega))
      · exact .nil i k (LL_end_left a b i k (by omega))
theorem bestOf_gOf (a b : List ByteArray) : bestOf a b = gOf a b (a.length + b.length) 0 0 := Greedy.uniq (bestOf_greedy a b) (gOf_greedy a b _ 0 0 (by omega))
end Go.Proofs.Ytaifdgfegloafaa.Pr
