/- The plain side of Common: what its numbers say. -/
import Derived.Test.YtiledjckdnkjgaaDoorSPartsP
namespace Go.Proofs.YtiledjckdnkjgaaDoor.Pr
set_option linter.unusedVariables false
set_option linter.unusedSimpArgs false

theorem cf_take : ∀ (a b : List ByteArray), a.take (cf a b) = b.take (cf a b)
  | [], b => by simp [cf]
  | x :: a, [] => by simp [cf]
  | x :: a, y :: b => by
    unfold cf
    by_cases h : x = y
    · rw [if_pos h, List.take_succ_cons, List.take_succ_cons, cf_take a b, h]
    · rw [if_neg h]
      rfl
theorem cf_ne : ∀ (a b : List ByteArray) (h1 : cf a b < a.length) (h2 : cf a b < b.length), a[cf a b] ≠ b[cf a b]
  | [], b, h1, _ => absurd h1 (by simp)
  | x :: a, [], _, h2 => absurd h2 (by simp)
  | x :: a, y :: b, h1, h2 => by
    by_cases h : x = y
    · have e : cf (x :: a) (y :: b) = cf a b + 1 := by simp [cf, h]
      simp only [e] at h1 h2 ⊢
      simp only [List.getElem_cons_succ]
      exact cf_ne a b (by simpa using h1) (by simpa using h2)
    · have e : cf (x :: a) (y :: b) = 0 := by simp [cf, h]
      simp only [e, List.getElem_cons_zero]
      exact h
theorem cb_le (a b : List ByteArray) (n : Nat) : cb a b n ≤ a.length - n ∧ cb a b n ≤ b.length - n := by
  have := cf_le (a.drop n).reverse (b.drop n).reverse
  rw [List.length_reverse, List.length_reverse, List.length_drop, List.length_drop] at this
  exact this
theorem cb_drop (a b : List ByteArray) (n : Nat) (h1 : n ≤ a.length) (h2 : n ≤ b.length) : a.drop (a.length - cb a b n) = b.drop (b.length - cb a b n) := by
  have h := cf_take (a.drop n).reverse (b.drop n).reverse
  have hl := cb_le a b n
  have e : cf (a.drop n).reverse (b.drop n).reverse = cb a b n := rfl
  rw [e, List.take_reverse, List.take_reverse, List.reverse_inj, List.drop_drop, List.drop_drop, List.length_drop, List.length_drop] at h
  rw [show n + (a.length - n - cb a b n) = a.length - cb a b n by omega, show n + (b.length - n - cb a b n) = b.length - cb a b n by omega] at h
  exact h
theorem cb_ne (a b : List ByteArray) (n : Nat) (h1 : n + cb a b n < a.length) (h2 : n + cb a b n < b.length) : a[a.length - 1 - cb a b n]'(by omega) ≠ b[b.length - 1 - cb a b n]'(by omega) := by
  have h := cf_ne (a.drop n).reverse (b.drop n).reverse (by rw [List.length_reverse, List.length_drop]; show cb a b n < _; omega) (by rw [List.length_reverse, List.length_drop]; show cb a b n < _; omega)
  have e : cf (a.drop n).reverse (b.drop n).reverse = cb a b n := rfl
  simp only [e, List.getElem_reverse, List.getElem_drop, List.length_drop] at h
  have i1 : n + (a.length - n - 1 - cb a b n) = a.length - 1 - cb a b n := by omega
  have i2 : n + (b.length - n - 1 - cb a b n) = b.length - 1 - cb a b n := by omega
  simp only [i1, i2] at h
  exact h
theorem cf_ne2 (a b : List ByteArray) (h1 : cf a b < a.length) (h2 : cf a b < b.length) : a[cf a b]? ≠ b[cf a b]? := fun e => cf_ne a b h1 h2 (by
  rw [List.getElem?_eq_getElem h1, List.getElem?_eq_getElem h2] at e
  exact Option.some.inj e)
theorem cb_ne2 (a b : List ByteArray) (n : Nat) (h1 : n + cb a b n < a.length) (h2 : n + cb a b n < b.length) : a[a.length - 1 - cb a b n]? ≠ b[b.length - 1 - cb a b n]? := fun e => cb_ne a b n h1 h2 (by
  rw [List.getElem?_eq_getElem (by omega), List.getElem?_eq_getElem (by omega)] at e
  exact Option.some.inj e)
theorem linesErr_of {l : List ByteArray} (h1 : l.length ≤ 60) (h2 : bytesIn l + l.length ≤ 2001) (h3 : 0 < l.length) (h4 : l.any feedy = false) : linesErr l = 0 := by
  unfold linesErr
  rw [if_neg (by omega), if_neg (by omega), if_neg (by omega), if_neg (by rw [h4]; decide)]
end Go.Proofs.YtiledjckdnkjgaaDoor.Pr
