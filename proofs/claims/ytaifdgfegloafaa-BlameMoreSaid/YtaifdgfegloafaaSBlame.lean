/- The plain side of blame: traces and origins. -/
import Derived.Test.YtaifdgfegloafaaTrace
import Derived.Test.YtaifdgfegloafaaSRef
import Derived.Test.YtaifdgfegloafaaF9
import Derived.Test.YtaifdgfegloafaaF13
namespace Go.Proofs.Ytaifdgfegloafaa.Pr
open Go.RowKit Go.Proofs.YtaifdgfegloafaaW.PrintWords Go.Proofs.YtaifdgfegloafaaW.PrintLast Go.Proofs.YtaifdgfegloafaaW.PrintMore
set_option linter.unusedVariables false
set_option linter.unusedSimpArgs false

/-- The line that a line of the second list is paired with. -/
def partN (m : List (Nat × Nat)) (i : Nat) : Option Nat := (m.find? fun p => p.2 == i).map (·.1)
/-- The best matching of versions n and n + 1, over numbers. -/
def bmN (v : List (List ByteArray)) (n : Nat) : List (Nat × Nat) := gOf (v.getD n []) (v.getD (n + 1) []) ((v.getD n []).length + (v.getD (n + 1) []).length) 0 0
/-- The origin of line i of version n. -/
def orgN (v : List (List ByteArray)) : Nat → Nat → Nat × Nat
  | 0, i => (0, i)
  | n + 1, i => match partN (bmN v n) i with
    | some j => orgN v n j
    | none => (n + 1, i)
/-- The trace of line i of version n, the other way about. -/
def trN (v : List (List ByteArray)) : Nat → Nat → List Nat
  | 0, i => [i]
  | n + 1, i => i :: (match partN (bmN v n) i with
    | some j => trN v n j
    | none => [])
theorem posFrom_part (i : Nat) : ∀ (m : List (Nat × Nat)) (q : Nat), (partN m i = none ∧ posFrom (i : Int) (m.map prOf) q = -1) ∨ ∃ (kk : Nat) (h : kk < m.length), m[kk].2 = i ∧ partN m i = some m[kk].1 ∧ posFrom (i : Int) (m.map prOf) q = ((q + kk : Nat) : Int)
  | [], q => .inl ⟨rfl, rfl⟩
  | p :: m, q => by
    by_cases h : p.2 = i
    · refine .inr ⟨0, by simp, h, ?_, ?_⟩
      · simp [partN, h]
      · simp only [List.map_cons, posFrom]
        rw [if_pos (show (prOf p).f1 = (i : Int) by show ((p.2 : Nat) : Int) = (i : Int); omega)]
        simp
    · have e1 : partN (p :: m) i = partN m i := by simp [partN, h]
      have e2 : posFrom (i : Int) ((p :: m).map prOf) q = posFrom (i : Int) (m.map prOf) (q + 1) := by
        simp only [List.map_cons, posFrom]
        rw [if_neg (show ¬ (prOf p).f1 = (i : Int) by show ¬ ((p.2 : Nat) : Int) = (i : Int); omega)]
      rw [e1, e2]
      rcases posFrom_part i m (q + 1) with h1 | ⟨kk, hk, g1, g2, g3⟩
      · exact .inl h1
      · refine .inr ⟨kk + 1, by simpa using hk, by simpa using g1, by simpa using g2, ?_⟩
        rw [g3]
        omega
theorem traceL_trN (v : List (List ByteArray)) : ∀ (n i : Nat), traceL v n (i : Int) = (trN v n i).map fun x : Nat => (x : Int)
  | 0, i => rfl
  | n + 1, i => by
    have hb : bestM (v.getD n []) (v.getD (n + 1) []) = (bmN v n).map prOf := rfl
    simp only [traceL, trN, hb, List.map_cons]
    congr 1
    rcases posFrom_part i (bmN v n) 0 with ⟨h1, h2⟩ | ⟨kk, hk, g1, g2, g3⟩
    · rw [h2, h1]
      rfl
    · rw [g2, g3]
      rw [if_neg (by omega)]
      have e : ((bmN v n).map prOf).getD ((0 + kk : Nat) : Int).toNat z58 = prOf (bmN v n)[kk] := by
        rw [Int.toNat_natCast, Nat.zero_add, List.getD_eq_getElem?_getD, List.getElem?_eq_getElem (by simpa using hk)]
        simp
      rw [e]
      exact traceL_trN v n _
/-- Length and last line of a trace are its origin. -/
theorem trN_ne (v : List (List ByteArray)) (n i : Nat) : trN v n i ≠ [] := by cases n <;> simp [trN]
theorem trN_org (v : List (List ByteArray)) : ∀ (n i : Nat), (trN v n i).length ≤ n + 1 ∧ orgN v n i = (n + 1 - (trN v n i).length, (trN v n i).getLast (trN_ne v n i))
  | 0, i => ⟨by simp [trN], by simp [trN, orgN]⟩
  | n + 1, i => by
    cases h : partN (bmN v n) i with
    | none =>
      have e : trN v (n + 1) i = [i] := by simp [trN, h]
      constructor
      · rw [e]; simp
      · simp only [orgN, h]
        simp [e]
    | some j =>
      have e : trN v (n + 1) i = i :: trN v n j := by simp [trN, h]
      obtain ⟨h1, h2⟩ := trN_org v n j
      constructor
      · rw [e, List.length_cons]
        omega
      · simp only [orgN, h]
        rw [h2]
        simp only [e, List.length_cons]
        rw [List.getLast_cons (trN_ne v n j)]
        congr 1
        omega
end Go.Proofs.Ytaifdgfegloafaa.Pr
