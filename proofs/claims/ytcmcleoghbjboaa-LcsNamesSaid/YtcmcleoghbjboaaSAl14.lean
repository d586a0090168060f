/- The plain side of the laws of lcs: Distance, comparisons, the chapter's examples. -/
import Derived.Test.YtcmcleoghbjboaaSG
import Derived.Test.YtcmcleoghbjboaaF6
import Derived.Test.YtcmcleoghbjboaaF8
namespace Go.Proofs.Ytcmcleoghbjboaa.Pr
open Go.RowKit Go.Proofs.YtcmcleoghbjboaaW.PrintWords Go.Proofs.YtcmcleoghbjboaaW.PrintLast Go.Proofs.YtcmcleoghbjboaaW.PrintMore
set_option linter.unusedVariables false
set_option linter.unusedSimpArgs false

/-- Distance: the number and the error. -/
theorem distance_ev (a b : List ByteArray) (ha : small a) (hb : small b) : Ev (fun n => lcs_Distance.f n a b) (if bothErr a b = 0 then (((a.length + b.length - 2 * lcsLen a b : Nat) : Int), (0 : Int)) else ((0 : Int), bothErr a b)) := by
  unfold lcs_Distance.f
  refine Ev.bd (length_ev a b ha hb) ?_
  by_cases h : bothErr a b = 0
  · rw [if_pos h, if_pos h]
    obtain ⟨h1, h2⟩ := bothErr_zero.1 h
    obtain ⟨l1, _⟩ := linesErr_zero h1
    obtain ⟨l2, _⟩ := linesErr_zero h2
    have g1 := lcsLen_le_left a b
    have g2 := lcsLen_le_right a b
    refine Ev.pos rfl (Ev.rt ?_)
    rw [w64 (x := (a.length : Int) + (b.length : Int)) (by omega), w64 (x := 2 * (lcsLen a b : Int)) (by omega), w64 (by omega)]
    simp only [Prod.mk.injEq, and_true]
    omega
  · simp only [if_neg h]
    exact Ev.rt rfl
theorem rsame_loop (a : List S31) (hl : a.length ≤ 9000000000000000000) : ∀ (d i : Nat), i + d = a.length → Ev (fun k => sidingref14_Same.l0 k a a (i : Int)) true := by
  intro d
  induction d with
  | zero =>
    intro i hi
    refine Ev.step (fun k => by rw [sidingref14_Same.l0]) ?_
    exact Ev.neg (by omega) (Ev.now _)
  | succ d ih =>
    intro i hi
    refine Ev.step (fun k => by rw [sidingref14_Same.l0]) ?_
    refine Ev.pos (by omega) (Ev.pos (by omega) (Ev.pos (by omega) (Ev.neg (by simp) ?_)))
    rw [w64 (by omega)]
    exact ih (i + 1) (by omega)
theorem rsame_ev (a : List S31) (hl : a.length ≤ 9000000000000000000) : Ev (fun k => sidingref14_Same.f k a a) true := by
  unfold sidingref14_Same.f
  exact Ev.pos rfl (rsame_loop a hl a.length 0 (by omega))
theorem alive14_ev : Ev (fun k => sidinglaw14_alive.f k) true := by
  unfold sidinglaw14_alive.f
  refine Ev.bs (Ev.bs ?_)
  have s1 : small [(⟨#[97]⟩ : ByteArray), ⟨#[98]⟩, ⟨#[99]⟩, ⟨#[100]⟩] := small_of_B (by decide)
  have s2 : small [(⟨#[98]⟩ : ByteArray), ⟨#[97]⟩, ⟨#[99]⟩] := small_of_B (by decide)
  have s3 : small [(⟨#[97]⟩ : ByteArray), ⟨#[97]⟩] := small_of_B (by decide)
  have s4 : small [(⟨#[97]⟩ : ByteArray)] := small_of_B (by decide)
  have b1 : bothErr [(⟨#[97]⟩ : ByteArray), ⟨#[98]⟩, ⟨#[99]⟩, ⟨#[100]⟩] [(⟨#[98]⟩ : ByteArray), ⟨#[97]⟩, ⟨#[99]⟩] = 0 := by decide +kernel
  have b2 : bothErr [(⟨#[97]⟩ : ByteArray), ⟨#[97]⟩] [(⟨#[97]⟩ : ByteArray)] = 0 := by decide +kernel
  have m1 : bestOf [(⟨#[97]⟩ : ByteArray), ⟨#[98]⟩, ⟨#[99]⟩, ⟨#[100]⟩] [(⟨#[98]⟩ : ByteArray), ⟨#[97]⟩, ⟨#[99]⟩] = [(0, 1), (2, 2)] := by
    rw [bestOf_gOf]
    decide +kernel
  have m2 : bestOf [(⟨#[97]⟩ : ByteArray), ⟨#[97]⟩] [(⟨#[97]⟩ : ByteArray)] = [(0, 0)] := by
    rw [bestOf_gOf]
    decide +kernel
  have n1 := bestOf_length [(⟨#[97]⟩ : ByteArray), ⟨#[98]⟩, ⟨#[99]⟩, ⟨#[100]⟩] [(⟨#[98]⟩ : ByteArray), ⟨#[97]⟩, ⟨#[99]⟩]
  rw [m1] at n1
  have e1 := best_ev _ _ s1 s2
  have e2 := length_ev _ _ s1 s2
  have e3 := distance_ev _ _ s1 s2
  have e4 := best_ev _ _ s3 s4
  rw [if_pos b1, m1] at e1
  rw [if_pos b1, ← n1] at e2
  rw [if_pos b1, ← n1] at e3
  rw [if_pos b2, m2] at e4
  refine Ev.bd e1 (Ev.bd e2 (Ev.bd e3 (Ev.bd e4 ?_)))
  refine Ev.pos rfl (Ev.bd (rsame_ev [(⟨0, 1⟩ : S31), ⟨2, 2⟩] (by decide)) (Ev.pos rfl (Ev.pos rfl (Ev.pos rfl (Ev.pos rfl (Ev.pos rfl (Ev.pos rfl (Ev.bd (rsame_ev [(⟨0, 0⟩ : S31)] (by decide)) (Ev.now _)))))))))
end Go.Proofs.Ytcmcleoghbjboaa.Pr
