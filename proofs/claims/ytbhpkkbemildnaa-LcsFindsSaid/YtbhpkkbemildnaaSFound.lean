/- What the reference of lcs returns: the best matching, its length, the distance. -/
import Derived.Test.YtbhpkkbemildnaaSBoth
import Derived.Test.YtbhpkkbemildnaaFound
import Derived.Test.YtbhpkkbemildnaaF20
import Derived.Test.YtbhpkkbemildnaaF22
import Derived.Test.YtbhpkkbemildnaaF24
namespace Go.Proofs.Ytbhpkkbemildnaa.Pr
open Go.RowKit Go.Proofs.YtbhpkkbemildnaaW.PrintWords Go.Proofs.YtbhpkkbemildnaaW.PrintLast Go.Proofs.YtbhpkkbemildnaaW.PrintMore
set_option linter.unusedVariables false
set_option linter.unusedSimpArgs false

theorem found_val (a b : List ByteArray) (ha : a.length ≤ 60) (hb : b.length ≤ 60) : ref14_Found.f a b = some ((bestOf a b).map prOf) := by
  unfold ref14_Found.f
  rw [if_pos (by rw [decide_eq_true ha, decide_eq_true hb]; rfl), bestOf_gOf]
  rfl
theorem best_le (a b : List ByteArray) : (bestOf a b).length ≤ a.length := by
  rw [bestOf_length]
  exact lcsLen_le_left a b
theorem rbest_ev (a b : List ByteArray) (ha : tiny a) (hb : tiny b) : Ev (fun k => sidingref14_Best.f k a b) (if bothErr a b = 0 then ((bestOf a b).map prOf, (0 : Int)) else (([] : List S52), bothErr a b)) := by
  unfold sidingref14_Best.f
  refine Ev.bd (both_ev a b ha hb) ?_
  by_cases h : bothErr a b = 0
  · rw [if_pos h]
    obtain ⟨h1, h2⟩ := bothErr_zero.1 h
    obtain ⟨l1, _⟩ := linesErr_zero h1
    obtain ⟨l2, _⟩ := linesErr_zero h2
    have hl := best_le a b
    refine Ev.pos h (Ev.bs (Ev.bc (found_val a b l1 l2) (Ev.pos (by simp; omega) (Ev.rt ?_))))
    rw [List.nil_append]
  · rw [if_neg h]
    exact Ev.neg h (Ev.bd (both_ev a b ha hb) (Ev.bs (Ev.now _)))
theorem rlength_ev (a b : List ByteArray) (ha : tiny a) (hb : tiny b) : Ev (fun k => sidingref14_Length.f k a b) (if bothErr a b = 0 then ((lcsLen a b : Int), (0 : Int)) else ((0 : Int), bothErr a b)) := by
  unfold sidingref14_Length.f
  refine Ev.bd (both_ev a b ha hb) ?_
  by_cases h : bothErr a b = 0
  · rw [if_pos h]
    obtain ⟨h1, h2⟩ := bothErr_zero.1 h
    obtain ⟨l1, _⟩ := linesErr_zero h1
    obtain ⟨l2, _⟩ := linesErr_zero h2
    refine Ev.pos h (Ev.bc (found_val a b l1 l2) (Ev.rt ?_))
    rw [List.length_map, bestOf_length]
  · rw [if_neg h]
    exact Ev.neg h (Ev.bd (both_ev a b ha hb) (Ev.bs (Ev.now _)))
theorem rdistance_ev (a b : List ByteArray) (ha : tiny a) (hb : tiny b) : Ev (fun k => sidingref14_Distance.f k a b) (if bothErr a b = 0 then (((a.length + b.length - 2 * lcsLen a b : Nat) : Int), (0 : Int)) else ((0 : Int), bothErr a b)) := by
  unfold sidingref14_Distance.f
  refine Ev.bd (both_ev a b ha hb) ?_
  by_cases h : bothErr a b = 0
  · rw [if_pos h]
    obtain ⟨h1, h2⟩ := bothErr_zero.1 h
    obtain ⟨l1, _⟩ := linesErr_zero h1
    obtain ⟨l2, _⟩ := linesErr_zero h2
    have g1 := lcsLen_le_left a b
    have g2 := lcsLen_le_right a b
    refine Ev.pos h (Ev.bc (found_val a b l1 l2) (Ev.rt ?_))
    rw [List.length_map, bestOf_length, w64 (x := (a.length : Int) + (b.length : Int)) (by omega), w64 (x := 2 * (lcsLen a b : Int)) (by omega), w64 (by omega)]
    congr 1
    omega
  · rw [if_neg h]
    exact Ev.neg h (Ev.bd (both_ev a b ha hb) (Ev.bs (Ev.now _)))
end Go.Proofs.Ytbhpkkbemildnaa.Pr
