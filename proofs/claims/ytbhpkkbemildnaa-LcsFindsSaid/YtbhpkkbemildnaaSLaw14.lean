/- The plain side of the laws of lcs: two lists that are valid, the chapter's examples. -/
import Derived.Test.YtbhpkkbemildnaaSG
import Derived.Test.YtbhpkkbemildnaaSBoth
import Derived.Test.YtbhpkkbemildnaaF23
import Derived.Test.YtbhpkkbemildnaaF27
import Derived.Test.YtbhpkkbemildnaaF26
namespace Go.Proofs.Ytbhpkkbemildnaa.Pr
open Go.RowKit Go.Proofs.YtbhpkkbemildnaaW.PrintWords Go.Proofs.YtbhpkkbemildnaaW.PrintLast Go.Proofs.YtbhpkkbemildnaaW.PrintMore
set_option linter.unusedVariables false
set_option linter.unusedSimpArgs false


/-- Distance: the number and the error. -/
theorem distance_ev (a b : List ByteArray) (ha : small a) (hb : small b) : Ev (fun n => lcs_Distance.f n a b) (if bothErr a b = 0 then (((a.length + b.length - 2 * lcsLen a b : Nat) : Int), (0 : Int)) else ((0 : Int), bothErr a b)) := by
  unfold lcs_Distance.f
  refine Ev.bd (length_ev a b ha hb) ?_
  by_cases h : bothErr a b = 0
  · rw [if_pos h, if_pos h]
    obtain ⟨h1, h2⟩ := bothErr_zero.1 h
    obtain ⟨l1, _⟩ := linesErr_zero h1
    obtain ⟨l2, _⟩ := linesErr_zero h2
    have g1 := lcsLen_le_left a b
    have g2 := lcsLen_le_right a b
    refine Ev.pos rfl (Ev.rt ?_)
    rw [w64 (x := (a.length : Int) + (b.length : Int)) (by omega), w64 (x := 2 * (lcsLen a b : Int)) (by omega), w64 (by omega)]
    simp only [Prod.mk.injEq, and_true]
    omega
  · simp only [if_neg h]
    exact Ev.rt rfl
/-- Two valid lists, not longer than the statements consider. -/
def fitB (a b : List ByteArray) : Bool := !longOf a && !longOf b && (bothErr a b == 0)
theorem fitB_true {a b : List ByteArray} (h : fitB a b = true) : tiny a ∧ tiny b ∧ bothErr a b = 0 := by
  unfold fitB at h
  simp only [Bool.and_eq_true, Bool.not_eq_true', beq_iff_eq] at h
  exact ⟨(longOf_tiny h.1.1).2, (longOf_tiny h.1.2).2, h.2⟩
theorem long2_ev (a b : List ByteArray) (ha : a.length ≤ 9000000000000000000) (hb : b.length ≤ 9000000000000000000) : Ev (fun k => sidinglaw14_long.f k a b) (longOf a || longOf b) := by
  unfold sidinglaw14_long.f
  refine Ev.bd (long_ev a ha) ?_
  by_cases h : longOf a = true
  · exact Ev.pos h (Ev.rt (by simp [h]))
  · refine Ev.neg h (Ev.bd (long_ev b hb) (Ev.rt ?_))
    simp [Bool.eq_false_iff.2 h]
theorem fit_ev (a b : List ByteArray) (ha : a.length ≤ 9000000000000000000) (hb : b.length ≤ 9000000000000000000) : Ev (fun k => sidinglaw14_fit.f k a b) (fitB a b) := by
  unfold sidinglaw14_fit.f fitB
  refine Ev.bd (long2_ev a b ha hb) ?_
  by_cases h1 : longOf a = true
  · exact Ev.pos (by simp [h1]) (Ev.rt (by simp [h1]))
  · by_cases h2 : longOf b = true
    · exact Ev.pos (by simp [h2]) (Ev.rt (by simp [h2]))
    · refine Ev.neg (by simp [h1, h2]) (Ev.bd (both_ev a b (longOf_tiny (Bool.eq_false_iff.2 h1)).2 (longOf_tiny (Bool.eq_false_iff.2 h2)).2) (Ev.rt ?_))
      simp [Bool.eq_false_iff.2 h1, Bool.eq_false_iff.2 h2]
theorem rsame_loop (a : List S52) (hl : a.length ≤ 9000000000000000000) : ∀ (d i : Nat), i + d = a.length → Ev (fun k => sidingref14_Same.l0 k a a (i : Int)) true := by
  intro d
  induction d with
  | zero =>
    intro i hi
    refine Ev.step (fun k => by rw [sidingref14_Same.l0]) ?_
    exact Ev.neg (by omega) (Ev.now _)
  | succ d ih =>
    intro i hi
    refine Ev.step (fun k => by rw [sidingref14_Same.l0]) ?_
    refine Ev.pos (by omega) (Ev.pos (by omega) (Ev.pos (by omega) (Ev.neg (by simp) ?_)))
    rw [w64 (by omega)]
    exact ih (i + 1) (by omega)
theorem rsame_ev (a : List S52) (hl : a.length ≤ 9000000000000000000) : Ev (fun k => sidingref14_Same.f k a a) true := by
  unfold sidingref14_Same.f
  exact Ev.pos rfl (rsame_loop a hl a.length 0 (by omega))
theorem alive14_ev : Ev (fun k => sidinglaw14_alive.f k) true := by
  unfold sidinglaw14_alive.f
  refine Ev.bs (Ev.bs ?_)
  have s1 : small [(⟨#[97]⟩ : ByteArray), ⟨#[98]⟩, ⟨#[99]⟩, ⟨#[100]⟩] := small_of_B (by decide)
  have s2 : small [(⟨#[98]⟩ : ByteArray), ⟨#[97]⟩, ⟨#[99]⟩] := small_of_B (by decide)
  have s3 : small [(⟨#[97]⟩ : ByteArray), ⟨#[97]⟩] := small_of_B (by decide)
  have s4 : small [(⟨#[97]⟩ : ByteArray)] := small_of_B (by decide)
  have b1 : bothErr [(⟨#[97]⟩ : ByteArray), ⟨#[98]⟩, ⟨#[99]⟩, ⟨#[100]⟩] [(⟨#[98]⟩ : ByteArray), ⟨#[97]⟩, ⟨#[99]⟩] = 0 := by decide +kernel
  have b2 : bothErr [(⟨#[97]⟩ : ByteArray), ⟨#[97]⟩] [(⟨#[97]⟩ : ByteArray)] = 0 := by decide +kernel
  have m1 : bestOf [(⟨#[97]⟩ : ByteArray), ⟨#[98]⟩, ⟨#[99]⟩, ⟨#[100]⟩] [(⟨#[98]⟩ : ByteArray), ⟨#[97]⟩, ⟨#[99]⟩] = [(0, 1), (2, 2)] := by
    rw [bestOf_gOf]
    decide +kernel
  have m2 : bestOf [(⟨#[97]⟩ : ByteArray), ⟨#[97]⟩] [(⟨#[97]⟩ : ByteArray)] = [(0, 0)] := by
    rw [bestOf_gOf]
    decide +kernel
  have n1 := bestOf_length [(⟨#[97]⟩ : ByteArray), ⟨#[98]⟩, ⟨#[99]⟩, ⟨#[100]⟩] [(⟨#[98]⟩ : ByteArray), ⟨#[97]⟩, ⟨#[99]⟩]
  rw [m1] at n1
  have e1 := best_ev _ _ s1 s2
  have e2 := length_ev _ _ s1 s2
  have e3 := distance_ev _ _ s1 s2
  have e4 := best_ev _ _ s3 s4
  rw [if_pos b1, m1] at e1
  rw [if_pos b1, ← n1] at e2
  rw [if_pos b1, ← n1] at e3
  rw [if_pos b2, m2] at e4
  refine Ev.bd e1 (Ev.bd e2 (Ev.bd e3 (Ev.bd e4 ?_)))
  refine Ev.pos rfl (Ev.bd (rsame_ev [(⟨0, 1⟩ : S52), ⟨2, 2⟩] (by decide)) (Ev.pos rfl (Ev.pos rfl (Ev.pos rfl (Ev.pos rfl (Ev.pos rfl (Ev.pos rfl (Ev.bd (rsame_ev [(⟨0, 0⟩ : S52)] (by decide)) (Ev.now _)))))))))
end Go.Proofs.Ytbhpkkbemildnaa.Pr
