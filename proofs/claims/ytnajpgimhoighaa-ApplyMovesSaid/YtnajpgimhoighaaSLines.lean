/- The plain side of package lines: the error of a list of lines. -/
import Derived.Test.YtnajpgimhoighaaPk
import Derived.Test.YtnajpgimhoighaaOdd
import Derived.Test.YtnajpgimhoighaaF49
namespace Go.Proofs.Ytnajpgimhoighaa.Pr
open Go.RowKit Go.Proofs.YtnajpgimhoighaaW.PrintWords Go.Proofs.YtnajpgimhoighaaW.PrintLast Go.Proofs.YtnajpgimhoighaaW.PrintMore
set_option linter.unusedVariables false
set_option linter.unusedSimpArgs false

/-- How many bytes the lines have. -/
def bytesIn (l : List ByteArray) : Nat := (l.map (·.size)).sum
/-- The error of a list of lines. -/
def linesErr (l : List ByteArray) : Int := if 60 < l.length then 4 else if 2001 < bytesIn l + l.length then 4 else if l.length = 0 then 8 else if l.any feedy = true then 8 else 0
/-- Each string of a list lies within the reach. -/
def small (l : List ByteArray) : Prop := ∀ s ∈ l, s.size ≤ 140737488351232

theorem bytesIn_take_succ (l : List ByteArray) (i : Nat) (h : i < l.length) : bytesIn (l.take (i + 1)) = bytesIn (l.take i) + l[i].size := by
  unfold bytesIn
  rw [take_succ_at l i h, List.map_append, List.sum_append]
  simp
theorem bytesIn_le (l : List ByteArray) (h : small l) : bytesIn l ≤ l.length * 140737488351232 := by
  induction l with
  | nil => simp [bytesIn]
  | cons s l ih =>
    have h1 := h s (by simp)
    have h2 := ih (fun x hx => h x (by simp [hx]))
    simp only [bytesIn, List.map_cons, List.sum_cons, List.length_cons] at h2 ⊢
    omega
theorem small_take {l : List ByteArray} (h : small l) (i : Nat) : small (l.take i) := fun s hs => h s (List.mem_of_mem_take hs)
theorem small_drop {l : List ByteArray} (h : small l) (i : Nat) : small (l.drop i) := fun s hs => h s (List.mem_of_mem_drop hs)

theorem check_loop (l : List ByteArray) (hs : small l) (hl : l.length ≤ 60) : ∀ (d i : Nat), i + d = l.length →
    Ev (fun k => lines_check.l0 k l ((l.length : Int) - 1 + (bytesIn (l.take i) : Int)) l (l.length : Int) (i : Int)) (linesErr l) := by
  have hfin : Ev (fun k => lines_check.l0 k l ((l.length : Int) - 1 + (bytesIn (l.take l.length) : Int)) l (l.length : Int) (l.length : Int)) (linesErr l) := by
    refine Ev.step (fun k => by rw [lines_check.l0]) ?_
    refine Ev.neg (by omega) ?_
    rw [List.take_length]
    unfold linesErr
    rw [if_neg (show ¬ 60 < l.length by omega)]
    by_cases h1 : 2001 < bytesIn l + l.length
    · rw [if_pos h1]
      exact Ev.pos (by omega) (Ev.now _)
    · rw [if_neg h1]
      refine Ev.neg (by omega) ?_
      by_cases h2 : l.length = 0
      · rw [if_pos h2]
        exact Ev.pos (by omega) (Ev.now _)
      · rw [if_neg h2]
        refine Ev.neg (by omega) ?_
        by_cases h3 : l.any feedy = true
        · rw [if_pos h3]
          exact Ev.bc (show lines_odd.f l = some true by unfold lines_odd.f; rw [h3]) (Ev.pos rfl (Ev.now _))
        · rw [if_neg h3]
          exact Ev.bc (show lines_odd.f l = some false by unfold lines_odd.f; rw [Bool.eq_false_iff.2 h3]) (Ev.neg (by simp) (Ev.now _))
  intro d
  induction d with
  | zero =>
    intro i hi
    obtain rfl : i = l.length := by omega
    exact hfin
  | succ d ih =>
    intro i hi
    have hlt : i < l.length := by omega
    have hb := bytesIn_le _ (small_take hs (i + 1))
    have hs' := bytesIn_take_succ l i hlt
    have hk : (l.take (i + 1)).length ≤ 60 := by rw [List.length_take]; omega
    refine Ev.step (fun k => by rw [lines_check.l0]) ?_
    refine Ev.pos (by omega) (Ev.pos (by omega) (Ev.pos (by omega) ?_))
    rw [rdOf_at _ _ _ hlt, w64 (by omega), w64 (by omega)]
    have h := ih (i + 1) (by omega)
    rw [hs'] at h
    simpa [Int.add_assoc] using h

theorem check_ev (l : List ByteArray) (hs : small l) : Ev (fun k => lines_check.f k l) (linesErr l) := by
  unfold lines_check.f
  by_cases hl : 60 < l.length
  · refine Ev.pos (by omega) (Ev.rt ?_)
    unfold linesErr
    rw [if_pos hl]
  · refine Ev.neg (by omega) ?_
    have h := check_loop l hs (by omega) l.length 0 (by omega)
    rw [w64 (by omega)]
    simpa [bytesIn] using h
end Go.Proofs.Ytnajpgimhoighaa.Pr
