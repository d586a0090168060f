/- A matching of the reference is one over numbers. -/
import Derived.Test.YtbhpkkbemildnaaSMatch
import Derived.Test.YtbhpkkbemildnaaSG
namespace Go.Proofs.Ytbhpkkbemildnaa.Pr
open Go.RowKit Go.Proofs.YtbhpkkbemildnaaW.PrintWords Go.Proofs.YtbhpkkbemildnaaW.PrintLast Go.Proofs.YtbhpkkbemildnaaW.PrintMore
set_option linter.unusedVariables false
set_option linter.unusedSimpArgs false

theorem matchFrom_ex (a b : List ByteArray) : ∀ (m : List S52) (x y : Int) (i k : Nat), -1 ≤ x → -1 ≤ y → (i : Int) = x + 1 → (k : Int) = y + 1 → matchFrom a b (x, y) m = true → ∃ n : List (Nat × Nat), m = n.map prOf ∧ Match a b i k n := by
  intro m
  induction m with
  | nil =>
    intro x y i k _ _ _ _ _
    exact ⟨[], rfl, .nil _ _⟩
  | cons p m ih =>
    intro x y i k hx hy hi hk h
    have h' : (pairOk a b (x, y) (p.f0, p.f1) && matchFrom a b (p.f0, p.f1) m) = true := h
    rw [Bool.and_eq_true] at h'
    obtain ⟨h1, h2⟩ := h'
    unfold pairOk at h1
    simp only [Bool.and_eq_true, decide_eq_true_eq] at h1
    obtain ⟨⟨⟨⟨g1, g2⟩, g3⟩, g4⟩, g5⟩ := h1
    obtain ⟨p0, p1⟩ := p
    simp only at g1 g2 g3 g4 g5 h2
    obtain ⟨n0, rfl⟩ : ∃ n : Nat, p0 = (n : Int) := ⟨p0.toNat, by omega⟩
    obtain ⟨n1, rfl⟩ : ∃ n : Nat, p1 = (n : Int) := ⟨p1.toNat, by omega⟩
    obtain ⟨n, rfl, hm⟩ := ih (n0 : Int) (n1 : Int) (n0 + 1) (n1 + 1) (by omega) (by omega) (by omega) (by omega) h2
    rw [rdOf_at _ a n0 (by omega), rdOf_at _ b n1 (by omega)] at g5
    exact ⟨(n0, n1) :: n, rfl, .cons i k (n0, n1) n (by show i ≤ n0; omega) (by show k ≤ n1; omega) (by show n0 < a.length; omega) (by show n1 < b.length; omega) g5 hm⟩
theorem match_from (a b : List ByteArray) {n : List (Nat × Nat)} {i k : Nat} (h : Match a b i k n) : ∀ x y : Int, x < (i : Int) → y < (k : Int) → matchFrom a b (x, y) (n.map prOf) = true := by
  induction h with
  | nil => intro x y _ _; rfl
  | cons i k p m h1 h2 h3 h4 he hm ih =>
    intro x y hx hy
    show (pairOk a b (x, y) ((p.1 : Int), (p.2 : Int)) && matchFrom a b ((p.1 : Int), (p.2 : Int)) (m.map prOf)) = true
    rw [ih (p.1 : Int) (p.2 : Int) (by omega) (by omega), Bool.and_true]
    unfold pairOk
    rw [rdOf_at _ a p.1 h3, rdOf_at _ b p.2 h4]
    simp only [decide_eq_true (show x < (p.1 : Int) by omega), decide_eq_true (show y < (p.2 : Int) by omega), decide_eq_true (show (p.1 : Int) < (a.length : Int) by omega), decide_eq_true (show (p.2 : Int) < (b.length : Int) by omega), decide_eq_true he]
    rfl
end Go.Proofs.Ytbhpkkbemildnaa.Pr
