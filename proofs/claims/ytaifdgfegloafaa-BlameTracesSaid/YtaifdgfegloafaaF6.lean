-- Written by wip/tools/myprint.py of this project (a walk of the program's text by program).
import Derived.Test.YtaifdgfegloafaaK
import Derived.Test.YtaifdgfegloafaaE0
import Derived.Test.YtaifdgfegloafaaF17
import Derived.Test.YtaifdgfegloafaaF18
import Derived.Test.YtaifdgfegloafaaF9
import Derived.Test.YtaifdgfegloafaaTrace
namespace Go.Proofs.Ytaifdgfegloafaa.Pr
open Go.RowKit Go.Proofs.YtaifdgfegloafaaW.PrintWords Go.Proofs.YtaifdgfegloafaaW.PrintLast Go.Proofs.YtaifdgfegloafaaW.PrintMore
attribute [local go_sem] max2_int min2_int max_two min_two max_three min_three max_four min_four   -- for this text's walks alone
set_option linter.unusedVariables false
set_option linter.unusedSimpArgs false

attribute [local go_sem high] eqA43
/-! ### sidinglaw23_BlameTraces: function 6 -/
mutual
def sidinglaw23_BlameTraces.j0 : Nat → List (List ByteArray) → Int → Int → Bool → Bool → Option (Bool)
  | 0, _, _, _, _, _ => none
  | k + 1, x0, x1, x2, x7, x44 => if x44 = true then (some x7) else ((blame_Blame.f k x0).bind fun bt464 => ((blame_Trace.f x0 x1).bind fun bt468 => ((blame_Trace.f x0 x2).bind fun bt472 => (if bt464.2 = 0 then (if bt468.2 = 0 then (if bt472.2 = 0 then (if 0 ≤ (wrap64 ((x0.length : Int) - 1)) then (if (wrap64 ((x0.length : Int) - 1)) < (x0.length : Int) then (if (bt464.1.length : Int) = ((rd_Lstr x0 (wrap64 ((x0.length : Int) - 1))).length : Int) then (if (bt468.1.length : Int) = 0 then (sidinglaw23_BlameTraces.j1 k x0 x1 x2 x7 bt464.1 bt468.1 bt472.1 true) else (if (bt472.1.length : Int) = 0 then (sidinglaw23_BlameTraces.j1 k x0 x1 x2 x7 bt464.1 bt468.1 bt472.1 true) else (if (bt468.1.length : Int) > (x0.length : Int) then (sidinglaw23_BlameTraces.j1 k x0 x1 x2 x7 bt464.1 bt468.1 bt472.1 true) else (sidinglaw23_BlameTraces.j1 k x0 x1 x2 x7 bt464.1 bt468.1 bt472.1 (decide ((bt472.1.length : Int) > (x0.length : Int))))))) else (sidinglaw23_BlameTraces.j1 k x0 x1 x2 x7 bt464.1 bt468.1 bt472.1 true)) else (none)) else (none)) else (sidinglaw23_BlameTraces.j1 k x0 x1 x2 x7 bt464.1 bt468.1 bt472.1 true)) else (sidinglaw23_BlameTraces.j1 k x0 x1 x2 x7 bt464.1 bt468.1 bt472.1 true)) else (sidinglaw23_BlameTraces.j1 k x0 x1 x2 x7 bt464.1 bt468.1 bt472.1 true)))))
def sidinglaw23_BlameTraces.j1 : Nat → List (List ByteArray) → Int → Int → Bool → List (S43) → List Int → List Int → Bool → Option (Bool)
  | 0, _, _, _, _, _, _, _, _ => none
  | k + 1, x0, x1, x2, x7, x8, x10, x12, x108 => if x108 = true then (some false) else (if 0 ≤ x1 then (if x1 < (x8.length : Int) then (if 0 < (x10.length : Int) then (if (!(((rd_T43 x8 x1).f0) == (wrap64 ((x0.length : Int) - (x10.length : Int)))) || (!(((rd_T43 x8 x1).f1) == (rd x10 0)))) = true then (sidinglaw23_BlameTraces.j2 k x0 x1 x7 x10 x12 true) else (if 0 ≤ x2 then (if x2 < (x8.length : Int) then (if 0 < (x12.length : Int) then (if (!(((rd_T43 x8 x2).f0) == (wrap64 ((x0.length : Int) - (x12.length : Int)))) || (!(((rd_T43 x8 x2).f1) == (rd x12 0)))) = true then (sidinglaw23_BlameTraces.j2 k x0 x1 x7 x10 x12 true) else (if 0 ≤ (wrap64 ((x10.length : Int) - 1)) then (if (wrap64 ((x10.length : Int) - 1)) < (x10.length : Int) then (if (rd x10 (wrap64 ((x10.length : Int) - 1))) = x1 then (if 0 ≤ (wrap64 ((x12.length : Int) - 1)) then (if (wrap64 ((x12.length : Int) - 1)) < (x12.length : Int) then (sidinglaw23_BlameTraces.j2 k x0 x1 x7 x10 x12 ((rd x12 (wrap64 ((x12.length : Int) - 1))) != x2)) else (none)) else (none)) else (sidinglaw23_BlameTraces.j2 k x0 x1 x7 x10 x12 true)) else (none)) else (none))) else (none)) else (none)) else (none))) else (none)) else (none)) else (none))
def sidinglaw23_BlameTraces.j2 : Nat → List (List ByteArray) → Int → Bool → List Int → List Int → Bool → Option (Bool)
  | 0, _, _, _, _, _, _ => none
  | k + 1, x0, x1, x7, x10, x12, x158 => if x158 = true then (some false) else (sidinglaw23_BlameTraces.l0 k x0 x1 x7 x10 x12 0)
def sidinglaw23_BlameTraces.l0 : Nat → List (List ByteArray) → Int → Bool → List Int → List Int → Int → Option (Bool)
  | 0, _, _, _, _, _, _ => none
  | k + 1, x0, x1, x7, x10, x12, x14 => if x14 < (x10.length : Int) then (if 0 ≤ (wrap64 ((wrap64 ((x0.length : Int) - (x10.length : Int))) + x14)) then (if (wrap64 ((wrap64 ((x0.length : Int) - (x10.length : Int))) + x14)) < (x0.length : Int) then (if 0 ≤ x14 then (if (rd x10 x14) < 0 then (some false) else (if (rd x10 x14) ≥ ((rd_Lstr x0 (wrap64 ((wrap64 ((x0.length : Int) - (x10.length : Int))) + x14))).length : Int) then (some false) else (if 0 ≤ (rd x10 x14) then (if (rd x10 x14) < ((rd_Lstr x0 (wrap64 ((wrap64 ((x0.length : Int) - (x10.length : Int))) + x14))).length : Int) then (if 0 ≤ (wrap64 ((x0.length : Int) - 1)) then (if (wrap64 ((x0.length : Int) - 1)) < (x0.length : Int) then (if 0 ≤ x1 then (if x1 < ((rd_Lstr x0 (wrap64 ((x0.length : Int) - 1))).length : Int) then (if (rdOf ByteArray.empty (rd_Lstr x0 (wrap64 ((wrap64 ((x0.length : Int) - (x10.length : Int))) + x14))) (rd x10 x14)).toList = (rdOf ByteArray.empty (rd_Lstr x0 (wrap64 ((x0.length : Int) - 1))) x1).toList then (sidinglaw23_BlameTraces.l0 k x0 x1 x7 x10 x12 (wrap64 (x14 + 1))) else (some false)) else (none)) else (none)) else (none)) else (none)) else (none)) else (none)))) else (none)) else (none)) else (none)) else (sidinglaw23_BlameTraces.l1 k x7 x10 x12 1)
def sidinglaw23_BlameTraces.l1 : Nat → Bool → List Int → List Int → Int → Option (Bool)
  | 0, _, _, _, _ => none
  | k + 1, x7, x10, x12, x16 => if x16 ≤ (x10.length : Int) then (sidinglaw23_BlameTraces.j5 k x7 x10 x12 x16 (decide (x16 ≤ (x12.length : Int)))) else (sidinglaw23_BlameTraces.j5 k x7 x10 x12 x16 false)
def sidinglaw23_BlameTraces.j5 : Nat → Bool → List Int → List Int → Int → Bool → Option (Bool)
  | 0, _, _, _, _, _ => none
  | k + 1, x7, x10, x12, x16, x217 => if x217 = true then (if 0 ≤ (wrap64 ((x10.length : Int) - x16)) then (if (wrap64 ((x10.length : Int) - x16)) < (x10.length : Int) then (if 0 ≤ (wrap64 ((x12.length : Int) - x16)) then (if (wrap64 ((x12.length : Int) - x16)) < (x12.length : Int) then (if (rd x10 (wrap64 ((x10.length : Int) - x16))) ≥ (rd x12 (wrap64 ((x12.length : Int) - x16))) then (some false) else (sidinglaw23_BlameTraces.l1 k x7 x10 x12 (wrap64 (x16 + 1)))) else (none)) else (none)) else (none)) else (none)) else (some x7)
end
def sidinglaw23_BlameTraces.f (k : Nat) (l0 : List (List ByteArray)) (a1 : Int) (a2 : Int) : Option (Bool) := (sidinglaw23_alive.f k).bind fun t461 => ((sidinglaw23_fit.f k l0).bind fun t462 => (if t462 = true then (if a1 < 0 then (sidinglaw23_BlameTraces.j0 k l0 a1 a2 t461 true) else (if a2 ≤ a1 then (sidinglaw23_BlameTraces.j0 k l0 a1 a2 t461 true) else (if 0 ≤ (wrap64 ((l0.length : Int) - 1)) then (if (wrap64 ((l0.length : Int) - 1)) < (l0.length : Int) then (if a2 ≥ ((rd_Lstr l0 (wrap64 ((l0.length : Int) - 1))).length : Int) then (sidinglaw23_BlameTraces.j0 k l0 a1 a2 t461 true) else (sidinglaw23_BlameTraces.j0 k l0 a1 a2 t461 (!t461))) else (none)) else (none)))) else (sidinglaw23_BlameTraces.j0 k l0 a1 a2 t461 true)))
theorem sidinglaw23_BlameTraces.mono_l : ∀ k, (∀ y0 y1 y2 y3 y4, LeO (sidinglaw23_BlameTraces.j0 k y0 y1 y2 y3 y4) (sidinglaw23_BlameTraces.j0 (k + 1) y0 y1 y2 y3 y4)) ∧ (∀ y0 y1 y2 y3 y4 y5 y6 y7, LeO (sidinglaw23_BlameTraces.j1 k y0 y1 y2 y3 y4 y5 y6 y7) (sidinglaw23_BlameTraces.j1 (k + 1) y0 y1 y2 y3 y4 y5 y6 y7)) ∧ (∀ y0 y1 y2 y3 y4 y5, LeO (sidinglaw23_BlameTraces.j2 k y0 y1 y2 y3 y4 y5) (sidinglaw23_BlameTraces.j2 (k + 1) y0 y1 y2 y3 y4 y5)) ∧ (∀ y0 y1 y2 y3 y4 y5, LeO (sidinglaw23_BlameTraces.l0 k y0 y1 y2 y3 y4 y5) (sidinglaw23_BlameTraces.l0 (k + 1) y0 y1 y2 y3 y4 y5)) ∧ (∀ y0 y1 y2 y3, LeO (sidinglaw23_BlameTraces.l1 k y0 y1 y2 y3) (sidinglaw23_BlameTraces.l1 (k + 1) y0 y1 y2 y3)) ∧ (∀ y0 y1 y2 y3 y4, LeO (sidinglaw23_BlameTraces.j5 k y0 y1 y2 y3 y4) (sidinglaw23_BlameTraces.j5 (k + 1) y0 y1 y2 y3 y4))
  | 0 => ⟨fun _ _ _ _ _ r h => by simp [sidinglaw23_BlameTraces.j0] at h, fun _ _ _ _ _ _ _ _ r h => by simp [sidinglaw23_BlameTraces.j1] at h, fun _ _ _ _ _ _ r h => by simp [sidinglaw23_BlameTraces.j2] at h, fun _ _ _ _ _ _ r h => by simp [sidinglaw23_BlameTraces.l0] at h, fun _ _ _ _ r h => by simp [sidinglaw23_BlameTraces.l1] at h, fun _ _ _ _ _ r h => by simp [sidinglaw23_BlameTraces.j5] at h⟩
  | k + 1 => by
    obtain ⟨ih0, ih1, ih2, ih3, ih4, ih5⟩ := sidinglaw23_BlameTraces.mono_l k
    refine ⟨?_, ?_, ?_, ?_, ?_, ?_⟩
    · intro y0 y1 y2 y3 y4
      unfold sidinglaw23_BlameTraces.j0
      repeat' first
      | (with_reducible exact ih0 _ _ _ _ _)
      | (with_reducible exact ih1 _ _ _ _ _ _ _ _)
      | (with_reducible exact ih2 _ _ _ _ _ _)
      | (with_reducible exact ih3 _ _ _ _ _ _)
      | (with_reducible exact ih4 _ _ _ _)
      | (with_reducible exact ih5 _ _ _ _ _)
      | (with_reducible exact blame_Blame.mono _ _)
      | (with_reducible exact sidinglaw23_alive.mono _)
      | (with_reducible exact sidinglaw23_fit.mono _ _)
      | (with_reducible exact LeO.refl _)
      | (with_reducible exact LeO.none _)
      | (with_reducible refine LeO.ite ?_ ?_)
      | (with_reducible refine LeO.bind ?_ (fun _ => ?_))
      | exact ih0 _ _ _ _ _
      | exact ih1 _ _ _ _ _ _ _ _
      | exact ih2 _ _ _ _ _ _
      | exact ih3 _ _ _ _ _ _
      | exact ih4 _ _ _ _
      | exact ih5 _ _ _ _ _
      | exact blame_Blame.mono _ _
      | exact sidinglaw23_alive.mono _
      | exact sidinglaw23_fit.mono _ _
      | exact LeO.none _
      | refine LeO.ite ?_ ?_
      | refine LeO.bind ?_ (fun _ => ?_)
    · intro y0 y1 y2 y3 y4 y5 y6 y7
      unfold sidinglaw23_BlameTraces.j1
      repeat' first
      | (with_reducible exact ih0 _ _ _ _ _)
      | (with_reducible exact ih1 _ _ _ _ _ _ _ _)
      | (with_reducible exact ih2 _ _ _ _ _ _)
      | (with_reducible exact ih3 _ _ _ _ _ _)
      | (with_reducible exact ih4 _ _ _ _)
      | (with_reducible exact ih5 _ _ _ _ _)
      | (with_reducible exact blame_Blame.mono _ _)
      | (with_reducible exact sidinglaw23_alive.mono _)
      | (with_reducible exact sidinglaw23_fit.mono _ _)
      | (with_reducible exact LeO.refl _)
      | (with_reducible exact LeO.none _)
      | (with_reducible refine LeO.ite ?_ ?_)
      | (with_reducible refine LeO.bind ?_ (fun _ => ?_))
      | exact ih0 _ _ _ _ _
      | exact ih1 _ _ _ _ _ _ _ _
      | exact ih2 _ _ _ _ _ _
      | exact ih3 _ _ _ _ _ _
      | exact ih4 _ _ _ _
      | exact ih5 _ _ _ _ _
      | exact blame_Blame.mono _ _
      | exact sidinglaw23_alive.mono _
      | exact sidinglaw23_fit.mono _ _
      | exact LeO.none _
      | refine LeO.ite ?_ ?_
      | refine LeO.bind ?_ (fun _ => ?_)
    · intro y0 y1 y2 y3 y4 y5
      unfold sidinglaw23_BlameTraces.j2
      repeat' first
      | (with_reducible exact ih0 _ _ _ _ _)
      | (with_reducible exact ih1 _ _ _ _ _ _ _ _)
      | (with_reducible exact ih2 _ _ _ _ _ _)
      | (with_reducible exact ih3 _ _ _ _ _ _)
      | (with_reducible exact ih4 _ _ _ _)
      | (with_reducible exact ih5 _ _ _ _ _)
      | (with_reducible exact blame_Blame.mono _ _)
      | (with_reducible exact sidinglaw23_alive.mono _)
      | (with_reducible exact sidinglaw23_fit.mono _ _)
      | (with_reducible exact LeO.refl _)
      | (with_reducible exact LeO.none _)
      | (with_reducible refine LeO.ite ?_ ?_)
      | (with_reducible refine LeO.bind ?_ (fun _ => ?_))
      | exact ih0 _ _ _ _ _
      | exact ih1 _ _ _ _ _ _ _ _
      | exact ih2 _ _ _ _ _ _
      | exact ih3 _ _ _ _ _ _
      | exact ih4 _ _ _ _
      | exact ih5 _ _ _ _ _
      | exact blame_Blame.mono _ _
      | exact sidinglaw23_alive.mono _
      | exact sidinglaw23_fit.mono _ _
      | exact LeO.none _
      | refine LeO.ite ?_ ?_
      | refine LeO.bind ?_ (fun _ => ?_)
    · intro y0 y1 y2 y3 y4 y5
      unfold sidinglaw23_BlameTraces.l0
      repeat' first
      | (with_reducible exact ih0 _ _ _ _ _)
      | (with_reducible exact ih1 _ _ _ _ _ _ _ _)
      | (with_reducible exact ih2 _ _ _ _ _ _)
      | (with_reducible exact ih3 _ _ _ _ _ _)
      | (with_reducible exact ih4 _ _ _ _)
      | (with_reducible exact ih5 _ _ _ _ _)
      | (with_reducible exact blame_Blame.mono _ _)
      | (with_reducible exact sidinglaw23_alive.mono _)
      | (with_reducible exact sidinglaw23_fit.mono _ _)
      | (with_reducible exact LeO.refl _)
      | (with_reducible exact LeO.none _)
      | (with_reducible refine LeO.ite ?_ ?_)
      | (with_reducible refine LeO.bind ?_ (fun _ => ?_))
      | exact ih0 _ _ _ _ _
      | exact ih1 _ _ _ _ _ _ _ _
      | exact ih2 _ _ _ _ _ _
      | exact ih3 _ _ _ _ _ _
      | exact ih4 _ _ _ _
      | exact ih5 _ _ _ _ _
      | exact blame_Blame.mono _ _
      | exact sidinglaw23_alive.mono _
      | exact sidinglaw23_fit.mono _ _
      | exact LeO.none _
      | refine LeO.ite ?_ ?_
      | refine LeO.bind ?_ (fun _ => ?_)
    · intro y0 y1 y2 y3
      unfold sidinglaw23_BlameTraces.l1
      repeat' first
      | (with_reducible exact ih0 _ _ _ _ _)
      | (with_reducible exact ih1 _ _ _ _ _ _ _ _)
      | (with_reducible exact ih2 _ _ _ _ _ _)
      | (with_reducible exact ih3 _ _ _ _ _ _)
      | (with_reducible exact ih4 _ _ _ _)
      | (with_reducible exact ih5 _ _ _ _ _)
      | (with_reducible exact blame_Blame.mono _ _)
      | (with_reducible exact sidinglaw23_alive.mono _)
      | (with_reducible exact sidinglaw23_fit.mono _ _)
      | (with_reducible exact LeO.refl _)
      | (with_reducible exact LeO.none _)
      | (with_reducible refine LeO.ite ?_ ?_)
      | (with_reducible refine LeO.bind ?_ (fun _ => ?_))
      | exact ih0 _ _ _ _ _
      | exact ih1 _ _ _ _ _ _ _ _
      | exact ih2 _ _ _ _ _ _
      | exact ih3 _ _ _ _ _ _
      | exact ih4 _ _ _ _
      | exact ih5 _ _ _ _ _
      | exact blame_Blame.mono _ _
      | exact sidinglaw23_alive.mono _
      | exact sidinglaw23_fit.mono _ _
      | exact LeO.none _
      | refine LeO.ite ?_ ?_
      | refine LeO.bind ?_ (fun _ => ?_)
    · intro y0 y1 y2 y3 y4
      unfold sidinglaw23_BlameTraces.j5
      repeat' first
      | (with_reducible exact ih0 _ _ _ _ _)
      | (with_reducible exact ih1 _ _ _ _ _ _ _ _)
      | (with_reducible exact ih2 _ _ _ _ _ _)
      | (with_reducible exact ih3 _ _ _ _ _ _)
      | (with_reducible exact ih4 _ _ _ _)
      | (with_reducible exact ih5 _ _ _ _ _)
      | (with_reducible exact blame_Blame.mono _ _)
      | (with_reducible exact sidinglaw23_alive.mono _)
      | (with_reducible exact sidinglaw23_fit.mono _ _)
      | (with_reducible exact LeO.refl _)
      | (with_reducible exact LeO.none _)
      | (with_reducible refine LeO.ite ?_ ?_)
      | (with_reducible refine LeO.bind ?_ (fun _ => ?_))
      | exact ih0 _ _ _ _ _
      | exact ih1 _ _ _ _ _ _ _ _
      | exact ih2 _ _ _ _ _ _
      | exact ih3 _ _ _ _ _ _
      | exact ih4 _ _ _ _
      | exact ih5 _ _ _ _ _
      | exact blame_Blame.mono _ _
      | exact sidinglaw23_alive.mono _
      | exact sidinglaw23_fit.mono _ _
      | exact LeO.none _
      | refine LeO.ite ?_ ?_
      | refine LeO.bind ?_ (fun _ => ?_)
theorem sidinglaw23_BlameTraces.mono : ∀ a0 a1 a2 k, LeO (sidinglaw23_BlameTraces.f k a0 a1 a2) (sidinglaw23_BlameTraces.f (k + 1) a0 a1 a2) := by
  intro a0 a1 a2 k
  obtain ⟨ih0, ih1, ih2, ih3, ih4, ih5⟩ := sidinglaw23_BlameTraces.mono_l k
  unfold sidinglaw23_BlameTraces.f
  repeat' first
      | (with_reducible exact ih0 _ _ _ _ _)
      | (with_reducible exact ih1 _ _ _ _ _ _ _ _)
      | (with_reducible exact ih2 _ _ _ _ _ _)
      | (with_reducible exact ih3 _ _ _ _ _ _)
      | (with_reducible exact ih4 _ _ _ _)
      | (with_reducible exact ih5 _ _ _ _ _)
      | (with_reducible exact blame_Blame.mono _ _)
      | (with_reducible exact sidinglaw23_alive.mono _)
      | (with_reducible exact sidinglaw23_fit.mono _ _)
      | (with_reducible exact LeO.refl _)
      | (with_reducible exact LeO.none _)
      | (with_reducible refine LeO.ite ?_ ?_)
      | (with_reducible refine LeO.bind ?_ (fun _ => ?_))
      | exact ih0 _ _ _ _ _
      | exact ih1 _ _ _ _ _ _ _ _
      | exact ih2 _ _ _ _ _ _
      | exact ih3 _ _ _ _ _ _
      | exact ih4 _ _ _ _
      | exact ih5 _ _ _ _ _
      | exact blame_Blame.mono _ _
      | exact sidinglaw23_alive.mono _
      | exact sidinglaw23_fit.mono _ _
      | exact LeO.none _
      | refine LeO.ite ?_ ?_
      | refine LeO.bind ?_ (fun _ => ?_)
set_option maxHeartbeats 8000000 in
set_option maxRecDepth 100000 in
theorem sidinglaw23_BlameTraces.calls (k : Nat) (A0 : Option Addr) (c0 : Nat) (l0 : List (List ByteArray)) (a1 : Int) (a2 : Int) (r : Bool) (w : World) (hr0 : Kd.C (Kd.slice 9 Kd.string) w A0 l0.length l0) (hc0 : l0.length ≤ c0) (h : sidinglaw23_BlameTraces.f k l0 a1 a2 = some r) :
    Calls Try.prog 6 #[.slice A0 l0.length c0, .int .i64 a1, .int .i64 a2] w fun e w' => e = .returned (.bool r) ∧ Below w.heap.size w w' := by
  have hu43 := Try.underlying43
  have HR0 := Aside0.mk hr0
  have HC0 := Aside0.mk hc0
  clear hr0 hc0
  have HB := Aside0.mk (Below.refl w.heap.size w)
  have H : ((sidinglaw23_alive.f k).bind fun t461 => ((sidinglaw23_fit.f k l0).bind fun t462 => (if t462 = true then (if a1 < 0 then (sidinglaw23_BlameTraces.j0 k l0 a1 a2 t461 true) else (if a2 ≤ a1 then (sidinglaw23_BlameTraces.j0 k l0 a1 a2 t461 true) else (if 0 ≤ (wrap64 ((l0.length : Int) - 1)) then (if (wrap64 ((l0.length : Int) - 1)) < (l0.length : Int) then (if a2 ≥ ((rd_Lstr l0 (wrap64 ((l0.length : Int) - 1))).length : Int) then (sidinglaw23_BlameTraces.j0 k l0 a1 a2 t461 true) else (sidinglaw23_BlameTraces.j0 k l0 a1 a2 t461 (!t461))) else (none)) else (none)))) else (sidinglaw23_BlameTraces.j0 k l0 a1 a2 t461 true)))) = some r := h
  clear h
  replace H := Option.bind_eq_some_iff.mp H
  obtain ⟨t461, A40, H⟩ := H
  replace H : ((sidinglaw23_fit.f k l0).bind fun t462 => (if t462 = true then (if a1 < 0 then (sidinglaw23_BlameTraces.j0 k l0 a1 a2 t461 true) else (if a2 ≤ a1 then (sidinglaw23_BlameTraces.j0 k l0 a1 a2 t461 true) else (if 0 ≤ (wrap64 ((l0.length : Int) - 1)) then (if (wrap64 ((l0.length : Int) - 1)) < (l0.length : Int) then (if a2 ≥ ((rd_Lstr l0 (wrap64 ((l0.length : Int) - 1))).length : Int) then (sidinglaw23_BlameTraces.j0 k l0 a1 a2 t461 true) else (sidinglaw23_BlameTraces.j0 k l0 a1 a2 t461 (!t461))) else (none)) else (none)))) else (sidinglaw23_BlameTraces.j0 k l0 a1 a2 t461 true))) = some r := H
  have A4 := Aside0.mk A40
  clear A40
  have HC5 := Aside0.mk H
  clear H
  go_enter Try.func6, Try.ntmps6
  go_upto_region 2 with (first | (go_at_call 17; (with_reducible refine (sidinglaw23_alive.calls k  t461 _ A4.out).mono ?_); rintro e w6 ⟨rfl, hb⟩; have n0_ := Aside0.mk (below_step (by repeat (first | (with_reducible first | exact HB.out | apply below_alloc | apply pw_below_drewN | apply below_drew1) | exact HB.out)) hb); clear HB; have HB := n0_; clear n0_; (try clear hb); (try clear hb2); (try clear hk); (try clear hi)))
  repeat (go_quiet (first | (go_at_call 17; (with_reducible refine (sidinglaw23_alive.calls k  t461 _ A4.out).mono ?_); rintro e w6 ⟨rfl, hb⟩; have n0_ := Aside0.mk (below_step (by repeat (first | (with_reducible first | exact HB.out | apply below_alloc | apply pw_below_drewN | apply below_drew1) | exact HB.out)) hb); clear HB; have HB := n0_; clear n0_; (try clear hb); (try clear hb2); (try clear hk); (try clear hi))); go_upto_region 2 with (first | (go_at_call 17; (with_reducible refine (sidinglaw23_alive.calls k  t461 _ A4.out).mono ?_); rintro e w6 ⟨rfl, hb⟩; have n0_ := Aside0.mk (below_step (by repeat (first | (with_reducible first | exact HB.out | apply below_alloc | apply pw_below_drewN | apply below_drew1) | exact HB.out)) hb); clear HB; have HB := n0_; clear n0_; (try clear hb); (try clear hb2); (try clear hk); (try clear hi))))
  (try simp only [Act.put, List.setIfInBounds_toArray, List.set_cons_zero, List.set_cons_succ])
  go_cut [44] (fun v44 wc => ∃ (kq : Nat) (x44_4 : Bool), v44 = .bool x44_4 ∧ Aside0 (sidinglaw23_BlameTraces.j0 kq l0 a1 a2 t461 x44_4 = some r) ∧ Aside0 (kq ≤ k) ∧ Aside0 (Below w.heap.size w wc))
  case first => as_aux_lemma =>
    have H := HC5.out
    clear HC5
    replace H := Option.bind_eq_some_iff.mp H
    obtain ⟨t462, A70, H⟩ := H
    replace H : (if t462 = true then (if a1 < 0 then (sidinglaw23_BlameTraces.j0 k l0 a1 a2 t461 true) else (if a2 ≤ a1 then (sidinglaw23_BlameTraces.j0 k l0 a1 a2 t461 true) else (if 0 ≤ (wrap64 ((l0.length : Int) - 1)) then (if (wrap64 ((l0.length : Int) - 1)) < (l0.length : Int) then (if a2 ≥ ((rd_Lstr l0 (wrap64 ((l0.length : Int) - 1))).length : Int) then (sidinglaw23_BlameTraces.j0 k l0 a1 a2 t461 true) else (sidinglaw23_BlameTraces.j0 k l0 a1 a2 t461 (!t461))) else (none)) else (none)))) else (sidinglaw23_BlameTraces.j0 k l0 a1 a2 t461 true)) = some r := H
    have A7 := Aside0.mk A70
    clear A70
    by_cases c8 : t462 = true
    · subst c8
      have H1 : (if a1 < 0 then (sidinglaw23_BlameTraces.j0 k l0 a1 a2 t461 true) else (if a2 ≤ a1 then (sidinglaw23_BlameTraces.j0 k l0 a1 a2 t461 true) else (if 0 ≤ (wrap64 ((l0.length : Int) - 1)) then (if (wrap64 ((l0.length : Int) - 1)) < (l0.length : Int) then (if a2 ≥ ((rd_Lstr l0 (wrap64 ((l0.length : Int) - 1))).length : Int) then (sidinglaw23_BlameTraces.j0 k l0 a1 a2 t461 true) else (sidinglaw23_BlameTraces.j0 k l0 a1 a2 t461 (!t461))) else (none)) else (none)))) = some r := by rw [if_pos rfl] at H; exact H
      clear H
      have H := H1
      clear H1
      by_cases c9 : a1 < 0
      · rw [if_pos c9] at H
        have c9b0 : decide (a1 < 0) = true := decide_eq_true c9
        clear c9
        (first | rw [c9b0] | (simp only [i64_w, i32_w]; rw [c9b0]) | skip)
        have H' := Aside0.mk H
        clear H
        go_wp2_with (first | (go_at_call 18; (with_reducible refine (sidinglaw23_fit.calls k _ _ l0 true _ ?side1 ?side2 A7.out).mono ?_); (case side1 => repeat (first | exact (Kd.C_below HR0.out HB.out) | (with_reducible refine Kd.C_alloc ?_ _) | (with_reducible refine Kd.C_drewN ?_ _) | (with_reducible refine Kd.C_drew ?_))); (case side2 => exact HC0.out); rintro e w10 ⟨rfl, hb⟩; have n0_ := Aside0.mk (below_step (by repeat (first | (with_reducible first | exact HB.out | apply below_alloc | apply pw_below_drewN | apply below_drew1) | exact HB.out)) hb); clear HB; have HB := n0_; clear n0_; (try clear hb); (try clear hb2); (try clear hk); (try clear hi)))
        repeat (go_quiet (first | (go_at_call 18; (with_reducible refine (sidinglaw23_fit.calls k _ _ l0 true _ ?side1 ?side2 A7.out).mono ?_); (case side1 => repeat (first | exact (Kd.C_below HR0.out HB.out) | (with_reducible refine Kd.C_alloc ?_ _) | (with_reducible refine Kd.C_drewN ?_ _) | (with_reducible refine Kd.C_drew ?_))); (case side2 => exact HC0.out); rintro e w10 ⟨rfl, hb⟩; have n0_ := Aside0.mk (below_step (by repeat (first | (with_reducible first | exact HB.out | apply below_alloc | apply pw_below_drewN | apply below_drew1) | exact HB.out)) hb); clear HB; have HB := n0_; clear n0_; (try clear hb); (try clear hb2); (try clear hk); (try clear hi))); try go_wp2_with (first | (go_at_call 18; (with_reducible refine (sidinglaw23_fit.calls k _ _ l0 true _ ?side1 ?side2 A7.out).mono ?_); (case side1 => repeat (first | exact (Kd.C_below HR0.out HB.out) | (with_reducible refine Kd.C_alloc ?_ _) | (with_reducible refine Kd.C_drewN ?_ _) | (with_reducible refine Kd.C_drew ?_))); (case side2 => exact HC0.out); rintro e w10 ⟨rfl, hb⟩; have n0_ := Aside0.mk (below_step (by repeat (first | (with_reducible first | exact HB.out | apply below_alloc | apply pw_below_drewN | apply below_drew1) | exact HB.out)) hb); clear HB; have HB := n0_; clear n0_; (try clear hb); (try clear hb2); (try clear hk); (try clear hi))))
        go_meet
        case rel => exact ⟨_, (true), (by first | rfl | (simp; done) | (simp [*]; done)), H', ⟨by first | omega | exact Nat.le_refl _⟩, ⟨by repeat (first | (with_reducible first | exact HB.out | apply below_alloc | apply pw_below_drewN | apply below_drew1) | exact HB.out)⟩⟩
      · rw [if_neg c9] at H
        have c9b0 : decide (a1 < 0) = false := decide_eq_false c9
        clear c9
        (first | rw [c9b0] | (simp only [i64_w, i32_w]; rw [c9b0]) | skip)
        by_cases c11 : a2 ≤ a1
        · rw [if_pos c11] at H
          have c11b0 : decide (a2 ≤ a1) = true := decide_eq_true c11
          clear c11
          have H' := Aside0.mk H
          clear H
          go_wp2_with (first | (go_at_call 18; (with_reducible refine (sidinglaw23_fit.calls k _ _ l0 true _ ?side1 ?side2 A7.out).mono ?_); (case side1 => repeat (first | exact (Kd.C_below HR0.out HB.out) | (with_reducible refine Kd.C_alloc ?_ _) | (with_reducible refine Kd.C_drewN ?_ _) | (with_reducible refine Kd.C_drew ?_))); (case side2 => exact HC0.out); rintro e w12 ⟨rfl, hb⟩; have n0_ := Aside0.mk (below_step (by repeat (first | (with_reducible first | exact HB.out | apply below_alloc | apply pw_below_drewN | apply below_drew1) | exact HB.out)) hb); clear HB; have HB := n0_; clear n0_; (try clear hb); (try clear hb2); (try clear hk); (try clear hi)))
          repeat (go_quiet (first | (go_at_call 18; (with_reducible refine (sidinglaw23_fit.calls k _ _ l0 true _ ?side1 ?side2 A7.out).mono ?_); (case side1 => repeat (first | exact (Kd.C_below HR0.out HB.out) | (with_reducible refine Kd.C_alloc ?_ _) | (with_reducible refine Kd.C_drewN ?_ _) | (with_reducible refine Kd.C_drew ?_))); (case side2 => exact HC0.out); rintro e w12 ⟨rfl, hb⟩; have n0_ := Aside0.mk (below_step (by repeat (first | (with_reducible first | exact HB.out | apply below_alloc | apply pw_below_drewN | apply below_drew1) | exact HB.out)) hb); clear HB; have HB := n0_; clear n0_; (try clear hb); (try clear hb2); (try clear hk); (try clear hi))); try go_wp2_with (first | (go_at_call 18; (with_reducible refine (sidinglaw23_fit.calls k _ _ l0 true _ ?side1 ?side2 A7.out).mono ?_); (case side1 => repeat (first | exact (Kd.C_below HR0.out HB.out) | (with_reducible refine Kd.C_alloc ?_ _) | (with_reducible refine Kd.C_drewN ?_ _) | (with_reducible refine Kd.C_drew ?_))); (case side2 => exact HC0.out); rintro e w12 ⟨rfl, hb⟩; have n0_ := Aside0.mk (below_step (by repeat (first | (with_reducible first | exact HB.out | apply below_alloc | apply pw_below_drewN | apply below_drew1) | exact HB.out)) hb); clear HB; have HB := n0_; clear n0_; (try clear hb); (try clear hb2); (try clear hk); (try clear hi))))
          go_meet
          case rel => exact ⟨_, (true), (by first | rfl | (simp; done) | (simp [*]; done)), H', ⟨by first | omega | exact Nat.le_refl _⟩, ⟨by repeat (first | (with_reducible first | exact HB.out | apply below_alloc | apply pw_below_drewN | apply below_drew1) | exact HB.out)⟩⟩
        · rw [if_neg c11] at H
          have c11b0 : decide (a2 ≤ a1) = false := decide_eq_false c11
          clear c11
          obtain ⟨ji13, hji13⟩ : ∃ j_ : Int, (wrap64 ((l0.length : Int) - 1)) = j_ := ⟨_, rfl⟩
          replace H : (if 0 ≤ (ji13) then (if (ji13) < (l0.length : Int) then (if a2 ≥ ((rd_Lstr l0 (ji13)).length : Int) then (sidinglaw23_BlameTraces.j0 k l0 a1 a2 t461 true) else (sidinglaw23_BlameTraces.j0 k l0 a1 a2 t461 (!t461))) else (none)) else (none)) = some r := by first | (rw [hji13] at H; exact H) | (simp only [hji13] at H ⊢; exact H)
          (try rw [hji13] at A7)
          have hji13w : (IntKind.i64.wrap ((l0.length : Int) - 1)) = ji13 := (i64_w _).trans hji13
          by_cases c14 : 0 ≤ (ji13)
          · rw [if_pos c14] at H
            have c14b0 : decide (0 ≤ (ji13)) = true := decide_eq_true c14
            clear c14
            by_cases c15 : (ji13) < (l0.length : Int)
            · rw [if_pos c15] at H
              have c15b0 : decide ((ji13) < (l0.length : Int)) = true := decide_eq_true c15
              clear c15
              by_cases c16 : a2 ≥ ((rd_Lstr l0 (ji13)).length : Int)
              · rw [if_pos c16] at H
                have c16b0 : decide (((rd_Lstr l0 (ji13)).length : Int) ≤ a2) = true := decide_eq_true c16
                clear c16
                have H' := Aside0.mk H
                clear H
                go_wp2_with (first | (go_at_call 18; (with_reducible refine (sidinglaw23_fit.calls k _ _ l0 true _ ?side1 ?side2 A7.out).mono ?_); (case side1 => repeat (first | exact (Kd.C_below HR0.out HB.out) | (with_reducible refine Kd.C_alloc ?_ _) | (with_reducible refine Kd.C_drewN ?_ _) | (with_reducible refine Kd.C_drew ?_))); (case side2 => exact HC0.out); rintro e w17 ⟨rfl, hb⟩; have n0_ := Aside0.mk (below_step (by repeat (first | (with_reducible first | exact HB.out | apply below_alloc | apply pw_below_drewN | apply below_drew1) | exact HB.out)) hb); clear HB; have HB := n0_; clear n0_; (try clear hb); (try clear hb2); (try clear hk); (try clear hi); have p463 : 0 ≤ ((ji13) : Int) := of_decide_eq_true (by first | (with_reducible assumption) | assumption); have q463 : (ji13) < (l0.length : Int) := of_decide_eq_true (by first | (with_reducible assumption) | assumption); obtain ⟨ad463, A463_0, c463_0, e463, hx463_0, hl463_0, hi463_0⟩ := at_Lstr HR0.out (ji13) p463 q463; cases e463; replace hx463_0 := (HB.out.cell (World.block_lt_of_cell? w _ hx463_0)).trans hx463_0; have HR463_0 := Aside0.mk hi463_0; have HC463_0 := Aside0.mk hl463_0; clear hi463_0 hl463_0; replace p463 := eq_true p463; replace q463 := eq_true q463))
                repeat (go_quiet (first | (go_at_call 18; (with_reducible refine (sidinglaw23_fit.calls k _ _ l0 true _ ?side1 ?side2 A7.out).mono ?_); (case side1 => repeat (first | exact (Kd.C_below HR0.out HB.out) | (with_reducible refine Kd.C_alloc ?_ _) | (with_reducible refine Kd.C_drewN ?_ _) | (with_reducible refine Kd.C_drew ?_))); (case side2 => exact HC0.out); rintro e w17 ⟨rfl, hb⟩; have n0_ := Aside0.mk (below_step (by repeat (first | (with_reducible first | exact HB.out | apply below_alloc | apply pw_below_drewN | apply below_drew1) | exact HB.out)) hb); clear HB; have HB := n0_; clear n0_; (try clear hb); (try clear hb2); (try clear hk); (try clear hi); have p463 : 0 ≤ ((ji13) : Int) := of_decide_eq_true (by first | (with_reducible assumption) | assumption); have q463 : (ji13) < (l0.length : Int) := of_decide_eq_true (by first | (with_reducible assumption) | assumption); obtain ⟨ad463, A463_0, c463_0, e463, hx463_0, hl463_0, hi463_0⟩ := at_Lstr HR0.out (ji13) p463 q463; cases e463; replace hx463_0 := (HB.out.cell (World.block_lt_of_cell? w _ hx463_0)).trans hx463_0; have HR463_0 := Aside0.mk hi463_0; have HC463_0 := Aside0.mk hl463_0; clear hi463_0 hl463_0; replace p463 := eq_true p463; replace q463 := eq_true q463)); try go_wp2_with (first | (go_at_call 18; (with_reducible refine (sidinglaw23_fit.calls k _ _ l0 true _ ?side1 ?side2 A7.out).mono ?_); (case side1 => repeat (first | exact (Kd.C_below HR0.out HB.out) | (with_reducible refine Kd.C_alloc ?_ _) | (with_reducible refine Kd.C_drewN ?_ _) | (with_reducible refine Kd.C_drew ?_))); (case side2 => exact HC0.out); rintro e w17 ⟨rfl, hb⟩; have n0_ := Aside0.mk (below_step (by repeat (first | (with_reducible first | exact HB.out | apply below_alloc | apply pw_below_drewN | apply below_drew1) | exact HB.out)) hb); clear HB; have HB := n0_; clear n0_; (try clear hb); (try clear hb2); (try clear hk); (try clear hi); have p463 : 0 ≤ ((ji13) : Int) := of_decide_eq_true (by first | (with_reducible assumption) | assumption); have q463 : (ji13) < (l0.length : Int) := of_decide_eq_true (by first | (with_reducible assumption) | assumption); obtain ⟨ad463, A463_0, c463_0, e463, hx463_0, hl463_0, hi463_0⟩ := at_Lstr HR0.out (ji13) p463 q463; cases e463; replace hx463_0 := (HB.out.cell (World.block_lt_of_cell? w _ hx463_0)).trans hx463_0; have HR463_0 := Aside0.mk hi463_0; have HC463_0 := Aside0.mk hl463_0; clear hi463_0 hl463_0; replace p463 := eq_true p463; replace q463 := eq_true q463)))
                go_meet
                case rel => exact ⟨_, (true), (by first | rfl | (simp; done) | (simp [*]; done)), H', ⟨by first | omega | exact Nat.le_refl _⟩, ⟨by repeat (first | (with_reducible first | exact HB.out | apply below_alloc | apply pw_below_drewN | apply below_drew1) | exact HB.out)⟩⟩
              · rw [if_neg c16] at H
                have c16b0 : decide (((rd_Lstr l0 (ji13)).length : Int) ≤ a2) = false := decide_eq_false c16
                clear c16
                have H' := Aside0.mk H
                clear H
                go_wp2_with (first | (go_at_call 18; (with_reducible refine (sidinglaw23_fit.calls k _ _ l0 true _ ?side1 ?side2 A7.out).mono ?_); (case side1 => repeat (first | exact (Kd.C_below HR0.out HB.out) | (with_reducible refine Kd.C_alloc ?_ _) | (with_reducible refine Kd.C_drewN ?_ _) | (with_reducible refine Kd.C_drew ?_))); (case side2 => exact HC0.out); rintro e w18 ⟨rfl, hb⟩; have n0_ := Aside0.mk (below_step (by repeat (first | (with_reducible first | exact HB.out | apply below_alloc | apply pw_below_drewN | apply below_drew1) | exact HB.out)) hb); clear HB; have HB := n0_; clear n0_; (try clear hb); (try clear hb2); (try clear hk); (try clear hi); have p463 : 0 ≤ ((ji13) : Int) := of_decide_eq_true (by first | (with_reducible assumption) | assumption); have q463 : (ji13) < (l0.length : Int) := of_decide_eq_true (by first | (with_reducible assumption) | assumption); obtain ⟨ad463, A463_0, c463_0, e463, hx463_0, hl463_0, hi463_0⟩ := at_Lstr HR0.out (ji13) p463 q463; cases e463; replace hx463_0 := (HB.out.cell (World.block_lt_of_cell? w _ hx463_0)).trans hx463_0; have HR463_0 := Aside0.mk hi463_0; have HC463_0 := Aside0.mk hl463_0; clear hi463_0 hl463_0; replace p463 := eq_true p463; replace q463 := eq_true q463))
                repeat (go_quiet (first | (go_at_call 18; (with_reducible refine (sidinglaw23_fit.calls k _ _ l0 true _ ?side1 ?side2 A7.out).mono ?_); (case side1 => repeat (first | exact (Kd.C_below HR0.out HB.out) | (with_reducible refine Kd.C_alloc ?_ _) | (with_reducible refine Kd.C_drewN ?_ _) | (with_reducible refine Kd.C_drew ?_))); (case side2 => exact HC0.out); rintro e w18 ⟨rfl, hb⟩; have n0_ := Aside0.mk (below_step (by repeat (first | (with_reducible first | exact HB.out | apply below_alloc | apply pw_below_drewN | apply below_drew1) | exact HB.out)) hb); clear HB; have HB := n0_; clear n0_; (try clear hb); (try clear hb2); (try clear hk); (try clear hi); have p463 : 0 ≤ ((ji13) : Int) := of_decide_eq_true (by first | (with_reducible assumption) | assumption); have q463 : (ji13) < (l0.length : Int) := of_decide_eq_true (by first | (with_reducible assumption) | assumption); obtain ⟨ad463, A463_0, c463_0, e463, hx463_0, hl463_0, hi463_0⟩ := at_Lstr HR0.out (ji13) p463 q463; cases e463; replace hx463_0 := (HB.out.cell (World.block_lt_of_cell? w _ hx463_0)).trans hx463_0; have HR463_0 := Aside0.mk hi463_0; have HC463_0 := Aside0.mk hl463_0; clear hi463_0 hl463_0; replace p463 := eq_true p463; replace q463 := eq_true q463)); try go_wp2_with (first | (go_at_call 18; (with_reducible refine (sidinglaw23_fit.calls k _ _ l0 true _ ?side1 ?side2 A7.out).mono ?_); (case side1 => repeat (first | exact (Kd.C_below HR0.out HB.out) | (with_reducible refine Kd.C_alloc ?_ _) | (with_reducible refine Kd.C_drewN ?_ _) | (with_reducible refine Kd.C_drew ?_))); (case side2 => exact HC0.out); rintro e w18 ⟨rfl, hb⟩; have n0_ := Aside0.mk (below_step (by repeat (first | (with_reducible first | exact HB.out | apply below_alloc | apply pw_below_drewN | apply below_drew1) | exact HB.out)) hb); clear HB; have HB := n0_; clear n0_; (try clear hb); (try clear hb2); (try clear hk); (try clear hi); have p463 : 0 ≤ ((ji13) : Int) := of_decide_eq_true (by first | (with_reducible assumption) | assumption); have q463 : (ji13) < (l0.length : Int) := of_decide_eq_true (by first | (with_reducible assumption) | assumption); obtain ⟨ad463, A463_0, c463_0, e463, hx463_0, hl463_0, hi463_0⟩ := at_Lstr HR0.out (ji13) p463 q463; cases e463; replace hx463_0 := (HB.out.cell (World.block_lt_of_cell? w _ hx463_0)).trans hx463_0; have HR463_0 := Aside0.mk hi463_0; have HC463_0 := Aside0.mk hl463_0; clear hi463_0 hl463_0; replace p463 := eq_true p463; replace q463 := eq_true q463)))
                go_meet
                case rel => exact ⟨_, (!t461), (by first | rfl | (simp; done) | (simp [*]; done)), H', ⟨by first | omega | exact Nat.le_refl _⟩, ⟨by repeat (first | (with_reducible first | exact HB.out | apply below_alloc | apply pw_below_drewN | apply below_drew1) | exact HB.out)⟩⟩
            · rw [if_neg c15] at H
              exact absurd H (by simp)
          · rw [if_neg c14] at H
            exact absurd H (by simp)
    · replace c8 := Bool.eq_false_iff.mpr c8
      subst c8
      have H1 : (sidinglaw23_BlameTraces.j0 k l0 a1 a2 t461 true) = some r := by rw [if_neg (show ¬ (false = true) by decide)] at H; exact H
      clear H
      have H := H1
      clear H1
      have H' := Aside0.mk H
      clear H
      go_wp2_with (first | (go_at_call 18; (with_reducible refine (sidinglaw23_fit.calls k _ _ l0 false _ ?side1 ?side2 A7.out).mono ?_); (case side1 => repeat (first | exact (Kd.C_below HR0.out HB.out) | (with_reducible refine Kd.C_alloc ?_ _) | (with_reducible refine Kd.C_drewN ?_ _) | (with_reducible refine Kd.C_drew ?_))); (case side2 => exact HC0.out); rintro e w19 ⟨rfl, hb⟩; have n0_ := Aside0.mk (below_step (by repeat (first | (with_reducible first | exact HB.out | apply below_alloc | apply pw_below_drewN | apply below_drew1) | exact HB.out)) hb); clear HB; have HB := n0_; clear n0_; (try clear hb); (try clear hb2); (try clear hk); (try clear hi)))
      repeat (go_quiet (first | (go_at_call 18; (with_reducible refine (sidinglaw23_fit.calls k _ _ l0 false _ ?side1 ?side2 A7.out).mono ?_); (case side1 => repeat (first | exact (Kd.C_below HR0.out HB.out) | (with_reducible refine Kd.C_alloc ?_ _) | (with_reducible refine Kd.C_drewN ?_ _) | (with_reducible refine Kd.C_drew ?_))); (case side2 => exact HC0.out); rintro e w19 ⟨rfl, hb⟩; have n0_ := Aside0.mk (below_step (by repeat (first | (with_reducible first | exact HB.out | apply below_alloc | apply pw_below_drewN | apply below_drew1) | exact HB.out)) hb); clear HB; have HB := n0_; clear n0_; (try clear hb); (try clear hb2); (try clear hk); (try clear hi))); try go_wp2_with (first | (go_at_call 18; (with_reducible refine (sidinglaw23_fit.calls k _ _ l0 false _ ?side1 ?side2 A7.out).mono ?_); (case side1 => repeat (first | exact (Kd.C_below HR0.out HB.out) | (with_reducible refine Kd.C_alloc ?_ _) | (with_reducible refine Kd.C_drewN ?_ _) | (with_reducible refine Kd.C_drew ?_))); (case side2 => exact HC0.out); rintro e w19 ⟨rfl, hb⟩; have n0_ := Aside0.mk (below_step (by repeat (first | (with_reducible first | exact HB.out | apply below_alloc | apply pw_below_drewN | apply below_drew1) | exact HB.out)) hb); clear HB; have HB := n0_; clear n0_; (try clear hb); (try clear hb2); (try clear hk); (try clear hi))))
      go_meet
      case rel => exact ⟨_, (true), (by first | rfl | (simp; done) | (simp [*]; done)), H', ⟨by first | omega | exact Nat.le_refl _⟩, ⟨by repeat (first | (with_reducible first | exact HB.out | apply below_alloc | apply pw_below_drewN | apply below_drew1) | exact HB.out)⟩⟩
  case rest => as_aux_lemma =>
    clear HC5
    try clear c1
    try clear p2
    try clear c4
    try clear p4
    try clear q4
    try clear hx4
    try clear c6
    try clear p6
    try clear c8
    try clear c9
    try clear c9b0
    try clear c11
    try clear c11b0
    try clear c14
    try clear c14b0
    try clear c15
    try clear c15b0
    try clear c16
    try clear c16b0
    try clear hx463_0
    try clear p463
    try clear q463
    obtain ⟨kq, x44_4, rfl, HA, HJ4, HB⟩ := hcut
    cases kq with
    | zero => exact absurd HA.out (by simp [sidinglaw23_BlameTraces.j0])
    | succ kj4 =>
      have H := HA.out
      clear HA
      simp only [sidinglaw23_BlameTraces.j0] at H
      by_cases c20 : x44_4 = true
      · subst c20
        have H1 : (some t461) = some r := by rw [if_pos rfl] at H; exact H
        clear H
        have H := H1
        clear H1
        obtain rfl := Option.some.inj H
        go_wp2
        repeat (go_quiet (fail); try go_wp2)
        go_ret
        exact ⟨by first | rfl | (simp [errW_none, errW_some] <;> rfl) | (simp [*, errW_none, errW_some] <;> rfl), by repeat (first | (with_reducible first | exact HB.out | apply below_alloc | apply pw_below_drewN | apply below_drew1) | exact HB.out)⟩
      · replace c20 := Bool.eq_false_iff.mpr c20
        subst c20
        have H1 : ((blame_Blame.f kj4 l0).bind fun bt464 => ((blame_Trace.f l0 a1).bind fun bt468 => ((blame_Trace.f l0 a2).bind fun bt472 => (if bt464.2 = 0 then (if bt468.2 = 0 then (if bt472.2 = 0 then (if 0 ≤ (wrap64 ((l0.length : Int) - 1)) then (if (wrap64 ((l0.length : Int) - 1)) < (l0.length : Int) then (if (bt464.1.length : Int) = ((rd_Lstr l0 (wrap64 ((l0.length : Int) - 1))).length : Int) then (if (bt468.1.length : Int) = 0 then (sidinglaw23_BlameTraces.j1 kj4 l0 a1 a2 t461 bt464.1 bt468.1 bt472.1 true) else (if (bt472.1.length : Int) = 0 then (sidinglaw23_BlameTraces.j1 kj4 l0 a1 a2 t461 bt464.1 bt468.1 bt472.1 true) else (if (bt468.1.length : Int) > (l0.length : Int) then (sidinglaw23_BlameTraces.j1 kj4 l0 a1 a2 t461 bt464.1 bt468.1 bt472.1 true) else (sidinglaw23_BlameTraces.j1 kj4 l0 a1 a2 t461 bt464.1 bt468.1 bt472.1 (decide ((bt472.1.length : Int) > (l0.length : Int))))))) else (sidinglaw23_BlameTraces.j1 kj4 l0 a1 a2 t461 bt464.1 bt468.1 bt472.1 true)) else (none)) else (none)) else (sidinglaw23_BlameTraces.j1 kj4 l0 a1 a2 t461 bt464.1 bt468.1 bt472.1 true)) else (sidinglaw23_BlameTraces.j1 kj4 l0 a1 a2 t461 bt464.1 bt468.1 bt472.1 true)) else (sidinglaw23_BlameTraces.j1 kj4 l0 a1 a2 t461 bt464.1 bt468.1 bt472.1 true))))) = some r := by rw [if_neg (show ¬ (false = true) by decide)] at H; exact H
        clear H
        have H := H1
        clear H1
        replace H := Option.bind_eq_some_iff.mp H
        obtain ⟨⟨t464, t465⟩, A210, H⟩ := H
        replace H : ((blame_Trace.f l0 a1).bind fun bt468 => ((blame_Trace.f l0 a2).bind fun bt472 => (if t465 = 0 then (if bt468.2 = 0 then (if bt472.2 = 0 then (if 0 ≤ (wrap64 ((l0.length : Int) - 1)) then (if (wrap64 ((l0.length : Int) - 1)) < (l0.length : Int) then (if (t464.length : Int) = ((rd_Lstr l0 (wrap64 ((l0.length : Int) - 1))).length : Int) then (if (bt468.1.length : Int) = 0 then (sidinglaw23_BlameTraces.j1 kj4 l0 a1 a2 t461 t464 bt468.1 bt472.1 true) else (if (bt472.1.length : Int) = 0 then (sidinglaw23_BlameTraces.j1 kj4 l0 a1 a2 t461 t464 bt468.1 bt472.1 true) else (if (bt468.1.length : Int) > (l0.length : Int) then (sidinglaw23_BlameTraces.j1 kj4 l0 a1 a2 t461 t464 bt468.1 bt472.1 true) else (sidinglaw23_BlameTraces.j1 kj4 l0 a1 a2 t461 t464 bt468.1 bt472.1 (decide ((bt472.1.length : Int) > (l0.length : Int))))))) else (sidinglaw23_BlameTraces.j1 kj4 l0 a1 a2 t461 t464 bt468.1 bt472.1 true)) else (none)) else (none)) else (sidinglaw23_BlameTraces.j1 kj4 l0 a1 a2 t461 t464 bt468.1 bt472.1 true)) else (sidinglaw23_BlameTraces.j1 kj4 l0 a1 a2 t461 t464 bt468.1 bt472.1 true)) else (sidinglaw23_BlameTraces.j1 kj4 l0 a1 a2 t461 t464 bt468.1 bt472.1 true)))) = some r := H
        have A21 := Aside0.mk A210
        clear A210
        replace H := Option.bind_eq_some_iff.mp H
        obtain ⟨⟨t468, t469⟩, A220, H⟩ := H
        replace H : ((blame_Trace.f l0 a2).bind fun bt472 => (if t465 = 0 then (if t469 = 0 then (if bt472.2 = 0 then (if 0 ≤ (wrap64 ((l0.length : Int) - 1)) then (if (wrap64 ((l0.length : Int) - 1)) < (l0.length : Int) then (if (t464.length : Int) = ((rd_Lstr l0 (wrap64 ((l0.length : Int) - 1))).length : Int) then (if (t468.length : Int) = 0 then (sidinglaw23_BlameTraces.j1 kj4 l0 a1 a2 t461 t464 t468 bt472.1 true) else (if (bt472.1.length : Int) = 0 then (sidinglaw23_BlameTraces.j1 kj4 l0 a1 a2 t461 t464 t468 bt472.1 true) else (if (t468.length : Int) > (l0.length : Int) then (sidinglaw23_BlameTraces.j1 kj4 l0 a1 a2 t461 t464 t468 bt472.1 true) else (sidinglaw23_BlameTraces.j1 kj4 l0 a1 a2 t461 t464 t468 bt472.1 (decide ((bt472.1.length : Int) > (l0.length : Int))))))) else (sidinglaw23_BlameTraces.j1 kj4 l0 a1 a2 t461 t464 t468 bt472.1 true)) else (none)) else (none)) else (sidinglaw23_BlameTraces.j1 kj4 l0 a1 a2 t461 t464 t468 bt472.1 true)) else (sidinglaw23_BlameTraces.j1 kj4 l0 a1 a2 t461 t464 t468 bt472.1 true)) else (sidinglaw23_BlameTraces.j1 kj4 l0 a1 a2 t461 t464 t468 bt472.1 true))) = some r := H
        have A22 := Aside0.mk A220
        clear A220
        replace H := Option.bind_eq_some_iff.mp H
        obtain ⟨⟨t472, t473⟩, A230, H⟩ := H
        replace H : (if t465 = 0 then (if t469 = 0 then (if t473 = 0 then (if 0 ≤ (wrap64 ((l0.length : Int) - 1)) then (if (wrap64 ((l0.length : Int) - 1)) < (l0.length : Int) then (if (t464.length : Int) = ((rd_Lstr l0 (wrap64 ((l0.length : Int) - 1))).length : Int) then (if (t468.length : Int) = 0 then (sidinglaw23_BlameTraces.j1 kj4 l0 a1 a2 t461 t464 t468 t472 true) else (if (t472.length : Int) = 0 then (sidinglaw23_BlameTraces.j1 kj4 l0 a1 a2 t461 t464 t468 t472 true) else (if (t468.length : Int) > (l0.length : Int) then (sidinglaw23_BlameTraces.j1 kj4 l0 a1 a2 t461 t464 t468 t472 true) else (sidinglaw23_BlameTraces.j1 kj4 l0 a1 a2 t461 t464 t468 t472 (decide ((t472.length : Int) > (l0.length : Int))))))) else (sidinglaw23_BlameTraces.j1 kj4 l0 a1 a2 t461 t464 t468 t472 true)) else (none)) else (none)) else (sidinglaw23_BlameTraces.j1 kj4 l0 a1 a2 t461 t464 t468 t472 true)) else (sidinglaw23_BlameTraces.j1 kj4 l0 a1 a2 t461 t464 t468 t472 true)) else (sidinglaw23_BlameTraces.j1 kj4 l0 a1 a2 t461 t464 t468 t472 true)) = some r := H
        have A23 := Aside0.mk A230
        clear A230
        have HC24 := Aside0.mk H
        clear H
        go_upto_region 7 with (first | (go_at_call 9; (with_reducible refine (blame_Blame.calls kj4 _ _ l0 t464 t465 _ ?side1 ?side2 A21.out).mono ?_); (case side1 => repeat (first | exact (Kd.C_below HR0.out HB.out) | (with_reducible refine Kd.C_alloc ?_ _) | (with_reducible refine Kd.C_drewN ?_ _) | (with_reducible refine Kd.C_drew ?_))); (case side2 => exact HC0.out); rintro e w25 ⟨v466, rfl, ho0, hb⟩; have n0_ := Aside0.mk (Kd.R_lower ho0 (below_size (by repeat (first | (with_reducible first | exact HB.out | apply below_alloc | apply pw_below_drewN | apply below_drew1) | exact HB.out)))); have n1_ := Aside0.mk (below_step (by repeat (first | (with_reducible first | exact HB.out | apply below_alloc | apply pw_below_drewN | apply below_drew1) | exact HB.out)) hb); clear HB; have HO467 := n0_; have HB := n1_; clear n0_ n1_; (try clear hb); (try clear hb2); (try clear hk); (try clear hi); (try clear ho0)) | (go_at_call 11; (with_reducible refine (blame_Trace.calls _ _ l0 a1 t468 t469 _ ?side1 ?side2 A22.out).mono ?_); (case side1 => repeat (first | exact (Kd.C_below HR0.out HB.out) | (with_reducible refine Kd.C_alloc ?_ _) | (with_reducible refine Kd.C_drewN ?_ _) | (with_reducible refine Kd.C_drew ?_))); (case side2 => exact HC0.out); rintro e w26 ⟨v470, rfl, ho0, hb⟩; have n0_ := Aside0.mk (Kd.R_below (by (with_reducible repeat (first | apply Kd.R_alloc | apply Kd.R_drewN | apply Kd.R_drew)); exact HO467.out) hb); have n1_ := Aside0.mk (Kd.R_lower ho0 (below_size (by repeat (first | (with_reducible first | exact HB.out | apply below_alloc | apply pw_below_drewN | apply below_drew1) | exact HB.out)))); have n2_ := Aside0.mk (below_step (by repeat (first | (with_reducible first | exact HB.out | apply below_alloc | apply pw_below_drewN | apply below_drew1) | exact HB.out)) hb); clear HO467; clear HB; have HO467 := n0_; have HO471 := n1_; have HB := n2_; clear n0_ n1_ n2_; (try clear hb); (try clear hb2); (try clear hk); (try clear hi); (try clear ho0)) | (go_at_call 11; (with_reducible refine (blame_Trace.calls _ _ l0 a2 t472 t473 _ ?side1 ?side2 A23.out).mono ?_); (case side1 => repeat (first | exact (Kd.C_below HR0.out HB.out) | (with_reducible refine Kd.C_alloc ?_ _) | (with_reducible refine Kd.C_drewN ?_ _) | (with_reducible refine Kd.C_drew ?_))); (case side2 => exact HC0.out); rintro e w27 ⟨v474, rfl, ho0, hb⟩; have n0_ := Aside0.mk (Kd.R_below (by (with_reducible repeat (first | apply Kd.R_alloc | apply Kd.R_drewN | apply Kd.R_drew)); exact HO467.out) hb); have n1_ := Aside0.mk (Kd.R_elder' (by (with_reducible repeat (first | apply Kd.R_alloc | apply Kd.R_drewN | apply Kd.R_drew)); exact HO471.out) (Kd.R_base ho0) hb); have n2_ := Aside0.mk (Kd.R_lower (Kd.R_new' ho0 (Kd.R_lt (by (with_reducible repeat (first | apply Kd.R_alloc | apply Kd.R_drewN | apply Kd.R_drew)); exact HO471.out))) (below_size (by repeat (first | (with_reducible first | exact HB.out | apply below_alloc | apply pw_below_drewN | apply below_drew1) | exact HB.out)))); have n3_ := Aside0.mk (below_step (by repeat (first | (with_reducible first | exact HB.out | apply below_alloc | apply pw_below_drewN | apply below_drew1) | exact HB.out)) hb); clear HO467; clear HO471; clear HB; have HO467 := n0_; have HO471 := n1_; have HO475 := n2_; have HB := n3_; clear n0_ n1_ n2_ n3_; (try clear hb); (try clear hb2); (try clear hk); (try clear hi); (try clear ho0)))
        repeat (go_quiet (first | (go_at_call 9; (with_reducible refine (blame_Blame.calls kj4 _ _ l0 t464 t465 _ ?side1 ?side2 A21.out).mono ?_); (case side1 => repeat (first | exact (Kd.C_below HR0.out HB.out) | (with_reducible refine Kd.C_alloc ?_ _) | (with_reducible refine Kd.C_drewN ?_ _) | (with_reducible refine Kd.C_drew ?_))); (case side2 => exact HC0.out); rintro e w25 ⟨v466, rfl, ho0, hb⟩; have n0_ := Aside0.mk (Kd.R_lower ho0 (below_size (by repeat (first | (with_reducible first | exact HB.out | apply below_alloc | apply pw_below_drewN | apply below_drew1) | exact HB.out)))); have n1_ := Aside0.mk (below_step (by repeat (first | (with_reducible first | exact HB.out | apply below_alloc | apply pw_below_drewN | apply below_drew1) | exact HB.out)) hb); clear HB; have HO467 := n0_; have HB := n1_; clear n0_ n1_; (try clear hb); (try clear hb2); (try clear hk); (try clear hi); (try clear ho0)) | (go_at_call 11; (with_reducible refine (blame_Trace.calls _ _ l0 a1 t468 t469 _ ?side1 ?side2 A22.out).mono ?_); (case side1 => repeat (first | exact (Kd.C_below HR0.out HB.out) | (with_reducible refine Kd.C_alloc ?_ _) | (with_reducible refine Kd.C_drewN ?_ _) | (with_reducible refine Kd.C_drew ?_))); (case side2 => exact HC0.out); rintro e w26 ⟨v470, rfl, ho0, hb⟩; have n0_ := Aside0.mk (Kd.R_below (by (with_reducible repeat (first | apply Kd.R_alloc | apply Kd.R_drewN | apply Kd.R_drew)); exact HO467.out) hb); have n1_ := Aside0.mk (Kd.R_lower ho0 (below_size (by repeat (first | (with_reducible first | exact HB.out | apply below_alloc | apply pw_below_drewN | apply below_drew1) | exact HB.out)))); have n2_ := Aside0.mk (below_step (by repeat (first | (with_reducible first | exact HB.out | apply below_alloc | apply pw_below_drewN | apply below_drew1) | exact HB.out)) hb); clear HO467; clear HB; have HO467 := n0_; have HO471 := n1_; have HB := n2_; clear n0_ n1_ n2_; (try clear hb); (try clear hb2); (try clear hk); (try clear hi); (try clear ho0)) | (go_at_call 11; (with_reducible refine (blame_Trace.calls _ _ l0 a2 t472 t473 _ ?side1 ?side2 A23.out).mono ?_); (case side1 => repeat (first | exact (Kd.C_below HR0.out HB.out) | (with_reducible refine Kd.C_alloc ?_ _) | (with_reducible refine Kd.C_drewN ?_ _) | (with_reducible refine Kd.C_drew ?_))); (case side2 => exact HC0.out); rintro e w27 ⟨v474, rfl, ho0, hb⟩; have n0_ := Aside0.mk (Kd.R_below (by (with_reducible repeat (first | apply Kd.R_alloc | apply Kd.R_drewN | apply Kd.R_drew)); exact HO467.out) hb); have n1_ := Aside0.mk (Kd.R_elder' (by (with_reducible repeat (first | apply Kd.R_alloc | apply Kd.R_drewN | apply Kd.R_drew)); exact HO471.out) (Kd.R_base ho0) hb); have n2_ := Aside0.mk (Kd.R_lower (Kd.R_new' ho0 (Kd.R_lt (by (with_reducible repeat (first | apply Kd.R_alloc | apply Kd.R_drewN | apply Kd.R_drew)); exact HO471.out))) (below_size (by repeat (first | (with_reducible first | exact HB.out | apply below_alloc | apply pw_below_drewN | apply below_drew1) | exact HB.out)))); have n3_ := Aside0.mk (below_step (by repeat (first | (with_reducible first | exact HB.out | apply below_alloc | apply pw_below_drewN | apply below_drew1) | exact HB.out)) hb); clear HO467; clear HO471; clear HB; have HO467 := n0_; have HO471 := n1_; have HO475 := n2_; have HB := n3_; clear n0_ n1_ n2_ n3_; (try clear hb); (try clear hb2); (try clear hk); (try clear hi); (try clear ho0))); go_upto_region 7 with (first | (go_at_call 9; (with_reducible refine (blame_Blame.calls kj4 _ _ l0 t464 t465 _ ?side1 ?side2 A21.out).mono ?_); (case side1 => repeat (first | exact (Kd.C_below HR0.out HB.out) | (with_reducible refine Kd.C_alloc ?_ _) | (with_reducible refine Kd.C_drewN ?_ _) | (with_reducible refine Kd.C_drew ?_))); (case side2 => exact HC0.out); rintro e w25 ⟨v466, rfl, ho0, hb⟩; have n0_ := Aside0.mk (Kd.R_lower ho0 (below_size (by repeat (first | (with_reducible first | exact HB.out | apply below_alloc | apply pw_below_drewN | apply below_drew1) | exact HB.out)))); have n1_ := Aside0.mk (below_step (by repeat (first | (with_reducible first | exact HB.out | apply below_alloc | apply pw_below_drewN | apply below_drew1) | exact HB.out)) hb); clear HB; have HO467 := n0_; have HB := n1_; clear n0_ n1_; (try clear hb); (try clear hb2); (try clear hk); (try clear hi); (try clear ho0)) | (go_at_call 11; (with_reducible refine (blame_Trace.calls _ _ l0 a1 t468 t469 _ ?side1 ?side2 A22.out).mono ?_); (case side1 => repeat (first | exact (Kd.C_below HR0.out HB.out) | (with_reducible refine Kd.C_alloc ?_ _) | (with_reducible refine Kd.C_drewN ?_ _) | (with_reducible refine Kd.C_drew ?_))); (case side2 => exact HC0.out); rintro e w26 ⟨v470, rfl, ho0, hb⟩; have n0_ := Aside0.mk (Kd.R_below (by (with_reducible repeat (first | apply Kd.R_alloc | apply Kd.R_drewN | apply Kd.R_drew)); exact HO467.out) hb); have n1_ := Aside0.mk (Kd.R_lower ho0 (below_size (by repeat (first | (with_reducible first | exact HB.out | apply below_alloc | apply pw_below_drewN | apply below_drew1) | exact HB.out)))); have n2_ := Aside0.mk (below_step (by repeat (first | (with_reducible first | exact HB.out | apply below_alloc | apply pw_below_drewN | apply below_drew1) | exact HB.out)) hb); clear HO467; clear HB; have HO467 := n0_; have HO471 := n1_; have HB := n2_; clear n0_ n1_ n2_; (try clear hb); (try clear hb2); (try clear hk); (try clear hi); (try clear ho0)) | (go_at_call 11; (with_reducible refine (blame_Trace.calls _ _ l0 a2 t472 t473 _ ?side1 ?side2 A23.out).mono ?_); (case side1 => repeat (first | exact (Kd.C_below HR0.out HB.out) | (with_reducible refine Kd.C_alloc ?_ _) | (with_reducible refine Kd.C_drewN ?_ _) | (with_reducible refine Kd.C_drew ?_))); (case side2 => exact HC0.out); rintro e w27 ⟨v474, rfl, ho0, hb⟩; have n0_ := Aside0.mk (Kd.R_below (by (with_reducible repeat (first | apply Kd.R_alloc | apply Kd.R_drewN | apply Kd.R_drew)); exact HO467.out) hb); have n1_ := Aside0.mk (Kd.R_elder' (by (with_reducible repeat (first | apply Kd.R_alloc | apply Kd.R_drewN | apply Kd.R_drew)); exact HO471.out) (Kd.R_base ho0) hb); have n2_ := Aside0.mk (Kd.R_lower (Kd.R_new' ho0 (Kd.R_lt (by (with_reducible repeat (first | apply Kd.R_alloc | apply Kd.R_drewN | apply Kd.R_drew)); exact HO471.out))) (below_size (by repeat (first | (with_reducible first | exact HB.out | apply below_alloc | apply pw_below_drewN | apply below_drew1) | exact HB.out)))); have n3_ := Aside0.mk (below_step (by repeat (first | (with_reducible first | exact HB.out | apply below_alloc | apply pw_below_drewN | apply below_drew1) | exact HB.out)) hb); clear HO467; clear HO471; clear HB; have HO467 := n0_; have HO471 := n1_; have HO475 := n2_; have HB := n3_; clear n0_ n1_ n2_ n3_; (try clear hb); (try clear hb2); (try clear hk); (try clear hi); (try clear ho0))))
        (try simp only [Act.put, List.setIfInBounds_toArray, List.set_cons_zero, List.set_cons_succ])
        go_cut [108] (fun v108 wc => ∃ (kq : Nat) (x108_23 : Bool), v108 = .bool x108_23 ∧ Aside0 (sidinglaw23_BlameTraces.j1 kq l0 a1 a2 t461 t464 t468 t472 x108_23 = some r) ∧ Aside0 (kq ≤ kj4) ∧ Aside0 (Kd.R k43 43 wc w.heap.size (fun _ => True) v466 t464) ∧ Aside0 (Kd.R (Kd.int .i64) 3 wc w.heap.size (fun k_ => some k_ ≠ (v474 : Value).ownBlock) v470 t468) ∧ Aside0 (Kd.R (Kd.int .i64) 3 wc w.heap.size (fun k_ => some k_ ≠ (v470 : Value).ownBlock) v474 t472) ∧ Aside0 (Below w.heap.size w wc))
        case first => as_aux_lemma =>
          have H := HC24.out
          clear HC24
          by_cases c28 : t465 = 0
          · rw [if_pos c28] at H
            have c28b0 : (t465 == 0) = true := beq_iff_eq.mpr c28
            have c28b1 : (t465 != 0) = false := bne_eq_false_iff_eq.mpr c28
            clear c28
            (first | rw [c28b0] | (simp only [i64_w, i32_w]; rw [c28b0]) | skip)
            by_cases c29 : t469 = 0
            · rw [if_pos c29] at H
              have c29b0 : (t469 == 0) = true := beq_iff_eq.mpr c29
              have c29b1 : (t469 != 0) = false := bne_eq_false_iff_eq.mpr c29
              clear c29
              by_cases c30 : t473 = 0
              · rw [if_pos c30] at H
                have c30b0 : (t473 == 0) = true := beq_iff_eq.mpr c30
                have c30b1 : (t473 != 0) = false := bne_eq_false_iff_eq.mpr c30
                clear c30
                obtain ⟨ji31, hji31⟩ : ∃ j_ : Int, (wrap64 ((l0.length : Int) - 1)) = j_ := ⟨_, rfl⟩
                replace H : (if 0 ≤ (ji31) then (if (ji31) < (l0.length : Int) then (if (t464.length : Int) = ((rd_Lstr l0 (ji31)).length : Int) then (if (t468.length : Int) = 0 then (sidinglaw23_BlameTraces.j1 kj4 l0 a1 a2 t461 t464 t468 t472 true) else (if (t472.length : Int) = 0 then (sidinglaw23_BlameTraces.j1 kj4 l0 a1 a2 t461 t464 t468 t472 true) else (if (t468.length : Int) > (l0.length : Int) then (sidinglaw23_BlameTraces.j1 kj4 l0 a1 a2 t461 t464 t468 t472 true) else (sidinglaw23_BlameTraces.j1 kj4 l0 a1 a2 t461 t464 t468 t472 (decide ((t472.length : Int) > (l0.length : Int))))))) else (sidinglaw23_BlameTraces.j1 kj4 l0 a1 a2 t461 t464 t468 t472 true)) else (none)) else (none)) = some r := by first | (rw [hji31] at H; exact H) | (simp only [hji31] at H ⊢; exact H)
                have hji31w : (IntKind.i64.wrap ((l0.length : Int) - 1)) = ji31 := (i64_w _).trans hji31
                by_cases c32 : 0 ≤ (ji31)
                · rw [if_pos c32] at H
                  have c32b0 : decide (0 ≤ (ji31)) = true := decide_eq_true c32
                  clear c32
                  by_cases c33 : (ji31) < (l0.length : Int)
                  · rw [if_pos c33] at H
                    have c33b0 : decide ((ji31) < (l0.length : Int)) = true := decide_eq_true c33
                    clear c33
                    by_cases c34 : (t464.length : Int) = ((rd_Lstr l0 (ji31)).length : Int)
                    · rw [if_pos c34] at H
                      have c34b0 : ((t464.length : Int) == ((rd_Lstr l0 (ji31)).length : Int)) = true := beq_iff_eq.mpr c34
                      have c34b1 : ((t464.length : Int) != ((rd_Lstr l0 (ji31)).length : Int)) = false := bne_eq_false_iff_eq.mpr c34
                      have c34b2 : (t464.length == (rd_Lstr l0 (ji31)).length) = true := by first | simpa using c34 | (simp at c34 ⊢; omega)
                      clear c34
                      by_cases c35 : (t468.length : Int) = 0
                      · rw [if_pos c35] at H
                        have c35b0 : ((t468.length : Int) == 0) = true := beq_iff_eq.mpr c35
                        have c35b1 : ((t468.length : Int) != 0) = false := bne_eq_false_iff_eq.mpr c35
                        clear c35
                        have H' := Aside0.mk H
                        clear H
                        obtain ⟨Ao36, co36, eo36⟩ := Kd.R_slice HO467.out
                        subst eo36
                        have p476 : 0 ≤ ((ji31) : Int) := of_decide_eq_true (by first | (with_reducible assumption) | assumption)
                        have q476 : (ji31) < (l0.length : Int) := of_decide_eq_true (by first | (with_reducible assumption) | assumption)
                        obtain ⟨ad476, A476_0, c476_0, e476, hx476_0, hl476_0, hi476_0⟩ := at_Lstr HR0.out (ji31) p476 q476
                        cases e476
                        replace hx476_0 := (HB.out.cell (World.block_lt_of_cell? w _ hx476_0)).trans hx476_0
                        have HR476_0 := Aside0.mk hi476_0
                        have HC476_0 := Aside0.mk hl476_0
                        clear hi476_0 hl476_0
                        replace p476 := eq_true p476
                        replace q476 := eq_true q476
                        obtain ⟨Ao37, co37, eo37⟩ := Kd.R_slice HO471.out
                        subst eo37
                        go_wp2
                        repeat (go_quiet (fail); try go_wp2)
                        go_meet
                        case rel => exact ⟨_, (true), (by first | rfl | (simp; done) | (simp [*]; done)), H', ⟨by have := HJ4.out; first | omega | exact Nat.le_refl _⟩, ⟨by (with_reducible repeat (first | apply Kd.R_alloc | apply Kd.R_drewN | apply Kd.R_drew)); exact HO467.out⟩, ⟨by (with_reducible repeat (first | apply Kd.R_alloc | apply Kd.R_drewN | apply Kd.R_drew)); exact Kd.R_mono HO471.out (fun _ hk => hk.2)⟩, ⟨by (with_reducible repeat (first | apply Kd.R_alloc | apply Kd.R_drewN | apply Kd.R_drew)); exact Kd.R_mono HO475.out (fun _ hk => hk.2)⟩, ⟨by repeat (first | (with_reducible first | exact HB.out | apply below_alloc | apply pw_below_drewN | apply below_drew1) | exact HB.out)⟩⟩
                      · rw [if_neg c35] at H
                        have c35b0 : ((t468.length : Int) == 0) = false := beq_eq_false_iff_ne.mpr c35
                        have c35b1 : ((t468.length : Int) != 0) = true := bne_iff_ne.mpr c35
                        have c35b2 : ¬ (t468 = []) := fun h_ => c35 (by rw [h_]; rfl)
                        by_cases c38 : (t472.length : Int) = 0
                        · rw [if_pos c38] at H
                          have c38b0 : ((t472.length : Int) == 0) = true := beq_iff_eq.mpr c38
                          have c38b1 : ((t472.length : Int) != 0) = false := bne_eq_false_iff_eq.mpr c38
                          clear c38
                          have H' := Aside0.mk H
                          clear H
                          obtain ⟨Ao39, co39, eo39⟩ := Kd.R_slice HO467.out
                          subst eo39
                          have p476 : 0 ≤ ((ji31) : Int) := of_decide_eq_true (by first | (with_reducible assumption) | assumption)
                          have q476 : (ji31) < (l0.length : Int) := of_decide_eq_true (by first | (with_reducible assumption) | assumption)
                          obtain ⟨ad476, A476_0, c476_0, e476, hx476_0, hl476_0, hi476_0⟩ := at_Lstr HR0.out (ji31) p476 q476
                          cases e476
                          replace hx476_0 := (HB.out.cell (World.block_lt_of_cell? w _ hx476_0)).trans hx476_0
                          have HR476_0 := Aside0.mk hi476_0
                          have HC476_0 := Aside0.mk hl476_0
                          clear hi476_0 hl476_0
                          replace p476 := eq_true p476
                          replace q476 := eq_true q476
                          obtain ⟨Ao40, co40, eo40⟩ := Kd.R_slice HO471.out
                          subst eo40
                          obtain ⟨Ao41, co41, eo41⟩ := Kd.R_slice HO475.out
                          subst eo41
                          go_wp2
                          repeat (go_quiet (fail); try go_wp2)
                          go_meet
                          case rel => exact ⟨_, (true), (by first | rfl | (simp; done) | (simp [*]; done)), H', ⟨by have := HJ4.out; first | omega | exact Nat.le_refl _⟩, ⟨by (with_reducible repeat (first | apply Kd.R_alloc | apply Kd.R_drewN | apply Kd.R_drew)); exact HO467.out⟩, ⟨by (with_reducible repeat (first | apply Kd.R_alloc | apply Kd.R_drewN | apply Kd.R_drew)); exact Kd.R_mono HO471.out (fun _ hk => hk.2)⟩, ⟨by (with_reducible repeat (first | apply Kd.R_alloc | apply Kd.R_drewN | apply Kd.R_drew)); exact Kd.R_mono HO475.out (fun _ hk => hk.2)⟩, ⟨by repeat (first | (with_reducible first | exact HB.out | apply below_alloc | apply pw_below_drewN | apply below_drew1) | exact HB.out)⟩⟩
                        · rw [if_neg c38] at H
                          have c38b0 : ((t472.length : Int) == 0) = false := beq_eq_false_iff_ne.mpr c38
                          have c38b1 : ((t472.length : Int) != 0) = true := bne_iff_ne.mpr c38
                          have c38b2 : ¬ (t472 = []) := fun h_ => c38 (by rw [h_]; rfl)
                          by_cases c42 : (t468.length : Int) > (l0.length : Int)
                          · rw [if_pos c42] at H
                            have c42b0 : decide ((l0.length : Int) < (t468.length : Int)) = true := decide_eq_true c42
                            have c42b1 : decide (l0.length < t468.length) = true := decide_eq_true (Int.ofNat_lt.mp c42)
                            clear c42
                            have H' := Aside0.mk H
                            clear H
                            obtain ⟨Ao43, co43, eo43⟩ := Kd.R_slice HO467.out
                            subst eo43
                            have p476 : 0 ≤ ((ji31) : Int) := of_decide_eq_true (by first | (with_reducible assumption) | assumption)
                            have q476 : (ji31) < (l0.length : Int) := of_decide_eq_true (by first | (with_reducible assumption) | assumption)
                            obtain ⟨ad476, A476_0, c476_0, e476, hx476_0, hl476_0, hi476_0⟩ := at_Lstr HR0.out (ji31) p476 q476
                            cases e476
                            replace hx476_0 := (HB.out.cell (World.block_lt_of_cell? w _ hx476_0)).trans hx476_0
                            have HR476_0 := Aside0.mk hi476_0
                            have HC476_0 := Aside0.mk hl476_0
                            clear hi476_0 hl476_0
                            replace p476 := eq_true p476
                            replace q476 := eq_true q476
                            obtain ⟨Ao44, co44, eo44⟩ := Kd.R_slice HO471.out
                            subst eo44
                            obtain ⟨Ao45, co45, eo45⟩ := Kd.R_slice HO475.out
                            subst eo45
                            go_wp2
                            repeat (go_quiet (fail); try go_wp2)
                            go_meet
                            case rel => exact ⟨_, (true), (by first | rfl | (simp; done) | (simp [*]; done)), H', ⟨by have := HJ4.out; first | omega | exact Nat.le_refl _⟩, ⟨by (with_reducible repeat (first | apply Kd.R_alloc | apply Kd.R_drewN | apply Kd.R_drew)); exact HO467.out⟩, ⟨by (with_reducible repeat (first | apply Kd.R_alloc | apply Kd.R_drewN | apply Kd.R_drew)); exact Kd.R_mono HO471.out (fun _ hk => hk.2)⟩, ⟨by (with_reducible repeat (first | apply Kd.R_alloc | apply Kd.R_drewN | apply Kd.R_drew)); exact Kd.R_mono HO475.out (fun _ hk => hk.2)⟩, ⟨by repeat (first | (with_reducible first | exact HB.out | apply below_alloc | apply pw_below_drewN | apply below_drew1) | exact HB.out)⟩⟩
                          · rw [if_neg c42] at H
                            have c42b0 : decide ((l0.length : Int) < (t468.length : Int)) = false := decide_eq_false c42
                            have c42b1 : decide (l0.length < t468.length) = false := decide_eq_false (fun h => c42 (Int.ofNat_lt.mpr h))
                            clear c42
                            have H' := Aside0.mk H
                            clear H
                            obtain ⟨Ao46, co46, eo46⟩ := Kd.R_slice HO467.out
                            subst eo46
                            have p476 : 0 ≤ ((ji31) : Int) := of_decide_eq_true (by first | (with_reducible assumption) | assumption)
                            have q476 : (ji31) < (l0.length : Int) := of_decide_eq_true (by first | (with_reducible assumption) | assumption)
                            obtain ⟨ad476, A476_0, c476_0, e476, hx476_0, hl476_0, hi476_0⟩ := at_Lstr HR0.out (ji31) p476 q476
                            cases e476
                            replace hx476_0 := (HB.out.cell (World.block_lt_of_cell? w _ hx476_0)).trans hx476_0
                            have HR476_0 := Aside0.mk hi476_0
                            have HC476_0 := Aside0.mk hl476_0
                            clear hi476_0 hl476_0
                            replace p476 := eq_true p476
                            replace q476 := eq_true q476
                            obtain ⟨Ao47, co47, eo47⟩ := Kd.R_slice HO471.out
                            subst eo47
                            obtain ⟨Ao48, co48, eo48⟩ := Kd.R_slice HO475.out
                            subst eo48
                            go_wp2
                            repeat (go_quiet (fail); try go_wp2)
                            go_meet
                            case rel => exact ⟨_, (decide ((t472.length : Int) > (l0.length : Int))), (by first | rfl | (simp; done) | (simp [*]; done)), H', ⟨by have := HJ4.out; first | omega | exact Nat.le_refl _⟩, ⟨by (with_reducible repeat (first | apply Kd.R_alloc | apply Kd.R_drewN | apply Kd.R_drew)); exact HO467.out⟩, ⟨by (with_reducible repeat (first | apply Kd.R_alloc | apply Kd.R_drewN | apply Kd.R_drew)); exact Kd.R_mono HO471.out (fun _ hk => hk.2)⟩, ⟨by (with_reducible repeat (first | apply Kd.R_alloc | apply Kd.R_drewN | apply Kd.R_drew)); exact Kd.R_mono HO475.out (fun _ hk => hk.2)⟩, ⟨by repeat (first | (with_reducible first | exact HB.out | apply below_alloc | apply pw_below_drewN | apply below_drew1) | exact HB.out)⟩⟩
                    · rw [if_neg c34] at H
                      have c34b0 : ((t464.length : Int) == ((rd_Lstr l0 (ji31)).length : Int)) = false := beq_eq_false_iff_ne.mpr c34
                      have c34b1 : ((t464.length : Int) != ((rd_Lstr l0 (ji31)).length : Int)) = true := bne_iff_ne.mpr c34
                      have c34b2 : (t464.length == (rd_Lstr l0 (ji31)).length) = false := by first | simpa using c34 | (simp at c34 ⊢; omega)
                      have H' := Aside0.mk H
                      clear H
                      obtain ⟨Ao49, co49, eo49⟩ := Kd.R_slice HO467.out
                      subst eo49
                      have p476 : 0 ≤ ((ji31) : Int) := of_decide_eq_true (by first | (with_reducible assumption) | assumption)
                      have q476 : (ji31) < (l0.length : Int) := of_decide_eq_true (by first | (with_reducible assumption) | assumption)
                      obtain ⟨ad476, A476_0, c476_0, e476, hx476_0, hl476_0, hi476_0⟩ := at_Lstr HR0.out (ji31) p476 q476
                      cases e476
                      replace hx476_0 := (HB.out.cell (World.block_lt_of_cell? w _ hx476_0)).trans hx476_0
                      have HR476_0 := Aside0.mk hi476_0
                      have HC476_0 := Aside0.mk hl476_0
                      clear hi476_0 hl476_0
                      replace p476 := eq_true p476
                      replace q476 := eq_true q476
                      go_wp2
                      repeat (go_quiet (fail); try go_wp2)
                      go_meet
                      case rel => exact ⟨_, (true), (by first | rfl | (simp; done) | (simp [*]; done)), H', ⟨by have := HJ4.out; first | omega | exact Nat.le_refl _⟩, ⟨by (with_reducible repeat (first | apply Kd.R_alloc | apply Kd.R_drewN | apply Kd.R_drew)); exact HO467.out⟩, ⟨by (with_reducible repeat (first | apply Kd.R_alloc | apply Kd.R_drewN | apply Kd.R_drew)); exact Kd.R_mono HO471.out (fun _ hk => hk.2)⟩, ⟨by (with_reducible repeat (first | apply Kd.R_alloc | apply Kd.R_drewN | apply Kd.R_drew)); exact Kd.R_mono HO475.out (fun _ hk => hk.2)⟩, ⟨by repeat (first | (with_reducible first | exact HB.out | apply below_alloc | apply pw_below_drewN | apply below_drew1) | exact HB.out)⟩⟩
                  · rw [if_neg c33] at H
                    exact absurd H (by simp)
                · rw [if_neg c32] at H
                  exact absurd H (by simp)
              · rw [if_neg c30] at H
                have c30b0 : (t473 == 0) = false := beq_eq_false_iff_ne.mpr c30
                have c30b1 : (t473 != 0) = true := bne_iff_ne.mpr c30
                have H' := Aside0.mk H
                clear H
                go_wp2
                repeat (go_quiet (fail); try go_wp2)
                go_meet
                case rel => exact ⟨_, (true), (by first | rfl | (simp; done) | (simp [*]; done)), H', ⟨by have := HJ4.out; first | omega | exact Nat.le_refl _⟩, ⟨by (with_reducible repeat (first | apply Kd.R_alloc | apply Kd.R_drewN | apply Kd.R_drew)); exact HO467.out⟩, ⟨by (with_reducible repeat (first | apply Kd.R_alloc | apply Kd.R_drewN | apply Kd.R_drew)); exact Kd.R_mono HO471.out (fun _ hk => hk.2)⟩, ⟨by (with_reducible repeat (first | apply Kd.R_alloc | apply Kd.R_drewN | apply Kd.R_drew)); exact Kd.R_mono HO475.out (fun _ hk => hk.2)⟩, ⟨by repeat (first | (with_reducible first | exact HB.out | apply below_alloc | apply pw_below_drewN | apply below_drew1) | exact HB.out)⟩⟩
            · rw [if_neg c29] at H
              have c29b0 : (t469 == 0) = false := beq_eq_false_iff_ne.mpr c29
              have c29b1 : (t469 != 0) = true := bne_iff_ne.mpr c29
              have H' := Aside0.mk H
              clear H
              go_wp2
              repeat (go_quiet (fail); try go_wp2)
              go_meet
              case rel => exact ⟨_, (true), (by first | rfl | (simp; done) | (simp [*]; done)), H', ⟨by have := HJ4.out; first | omega | exact Nat.le_refl _⟩, ⟨by (with_reducible repeat (first | apply Kd.R_alloc | apply Kd.R_drewN | apply Kd.R_drew)); exact HO467.out⟩, ⟨by (with_reducible repeat (first | apply Kd.R_alloc | apply Kd.R_drewN | apply Kd.R_drew)); exact Kd.R_mono HO471.out (fun _ hk => hk.2)⟩, ⟨by (with_reducible repeat (first | apply Kd.R_alloc | apply Kd.R_drewN | apply Kd.R_drew)); exact Kd.R_mono HO475.out (fun _ hk => hk.2)⟩, ⟨by repeat (first | (with_reducible first | exact HB.out | apply below_alloc | apply pw_below_drewN | apply below_drew1) | exact HB.out)⟩⟩
          · rw [if_neg c28] at H
            have c28b0 : (t465 == 0) = false := beq_eq_false_iff_ne.mpr c28
            have c28b1 : (t465 != 0) = true := bne_iff_ne.mpr c28
            (first | rw [c28b0] | (simp only [i64_w, i32_w]; rw [c28b0]) | skip)
            have H' := Aside0.mk H
            clear H
            go_wp2
            repeat (go_quiet (fail); try go_wp2)
            go_meet
            case rel => exact ⟨_, (true), (by first | rfl | (simp; done) | (simp [*]; done)), H', ⟨by have := HJ4.out; first | omega | exact Nat.le_refl _⟩, ⟨by (with_reducible repeat (first | apply Kd.R_alloc | apply Kd.R_drewN | apply Kd.R_drew)); exact HO467.out⟩, ⟨by (with_reducible repeat (first | apply Kd.R_alloc | apply Kd.R_drewN | apply Kd.R_drew)); exact Kd.R_mono HO471.out (fun _ hk => hk.2)⟩, ⟨by (with_reducible repeat (first | apply Kd.R_alloc | apply Kd.R_drewN | apply Kd.R_drew)); exact Kd.R_mono HO475.out (fun _ hk => hk.2)⟩, ⟨by repeat (first | (with_reducible first | exact HB.out | apply below_alloc | apply pw_below_drewN | apply below_drew1) | exact HB.out)⟩⟩
        case rest => as_aux_lemma =>
          clear HC24
          try clear c1
          try clear c2
          try clear p2
          try clear c3
          try clear c4
          try clear p4
          try clear q4
          try clear hx4
          try clear c6
          try clear p6
          try clear c8
          try clear c9
          try clear c9b0
          try clear c11
          try clear c11b0
          try clear c14
          try clear c14b0
          try clear c15
          try clear c15b0
          try clear c16
          try clear c16b0
          try clear c20
          try clear c28
          try clear c28b0
          try clear c28b1
          try clear c29
          try clear c29b0
          try clear c29b1
          try clear c30
          try clear c30b0
          try clear c30b1
          try clear c32
          try clear c32b0
          try clear c33
          try clear c33b0
          try clear c34
          try clear c34b0
          try clear c34b1
          try clear c34b2
          try clear c35
          try clear c35b0
          try clear c35b1
          try clear c35b2
          try clear c38
          try clear c38b0
          try clear c38b1
          try clear c38b2
          try clear c42
          try clear c42b0
          try clear c42b1
          try clear c46
          try clear p46
          try clear q46
          try clear hx46
          try clear c47
          try clear p47
          try clear q47
          try clear hx47
          try clear hx463_0
          try clear hx476_0
          try clear p2
          try clear p4
          try clear p463
          try clear p476
          try clear p6
          try clear q4
          try clear q463
          try clear q476
          obtain ⟨kq, x108_23, rfl, HA, HJ23, HO_8, HO_10, HO_12, HB⟩ := hcut
          cases kq with
          | zero => exact absurd HA.out (by simp [sidinglaw23_BlameTraces.j1])
          | succ kj23 =>
            have H := HA.out
            clear HA
            simp only [sidinglaw23_BlameTraces.j1] at H
            by_cases c50 : x108_23 = true
            · subst c50
              have H1 : (some false) = some r := by rw [if_pos rfl] at H; exact H
              clear H
              have H := H1
              clear H1
              obtain rfl := Option.some.inj H
              go_wp2
              repeat (go_quiet (fail); try go_wp2)
              go_ret
              exact ⟨by first | rfl | (simp [errW_none, errW_some] <;> rfl) | (simp [*, errW_none, errW_some] <;> rfl), by repeat (first | (with_reducible first | exact HB.out | apply below_alloc | apply pw_below_drewN | apply below_drew1) | exact HB.out)⟩
            · replace c50 := Bool.eq_false_iff.mpr c50
              subst c50
              have H1 : (if 0 ≤ a1 then (if a1 < (t464.length : Int) then (if 0 < (t468.length : Int) then (if (!(((rd_T43 t464 a1).f0) == (wrap64 ((l0.length : Int) - (t468.length : Int)))) || (!(((rd_T43 t464 a1).f1) == (rd t468 0)))) = true then (sidinglaw23_BlameTraces.j2 kj23 l0 a1 t461 t468 t472 true) else (if 0 ≤ a2 then (if a2 < (t464.length : Int) then (if 0 < (t472.length : Int) then (if (!(((rd_T43 t464 a2).f0) == (wrap64 ((l0.length : Int) - (t472.length : Int)))) || (!(((rd_T43 t464 a2).f1) == (rd t472 0)))) = true then (sidinglaw23_BlameTraces.j2 kj23 l0 a1 t461 t468 t472 true) else (if 0 ≤ (wrap64 ((t468.length : Int) - 1)) then (if (wrap64 ((t468.length : Int) - 1)) < (t468.length : Int) then (if (rd t468 (wrap64 ((t468.length : Int) - 1))) = a1 then (if 0 ≤ (wrap64 ((t472.length : Int) - 1)) then (if (wrap64 ((t472.length : Int) - 1)) < (t472.length : Int) then (sidinglaw23_BlameTraces.j2 kj23 l0 a1 t461 t468 t472 ((rd t472 (wrap64 ((t472.length : Int) - 1))) != a2)) else (none)) else (none)) else (sidinglaw23_BlameTraces.j2 kj23 l0 a1 t461 t468 t472 true)) else (none)) else (none))) else (none)) else (none)) else (none))) else (none)) else (none)) else (none)) = some r := by rw [if_neg (show ¬ (false = true) by decide)] at H; exact H
              clear H
              have H := H1
              clear H1
              have HC51 := Aside0.mk H
              clear H
              go_upto_region 9 with (fail)
              repeat (go_quiet (fail); go_upto_region 9 with (fail))
              go_cut [158] (fun v158 wc => ∃ (kq : Nat) (x158_50 : Bool), v158 = .bool x158_50 ∧ Aside0 (sidinglaw23_BlameTraces.j2 kq l0 a1 t461 t468 t472 x158_50 = some r) ∧ Aside0 (kq ≤ kj23) ∧ Aside0 (Kd.R (Kd.int .i64) 3 wc w.heap.size (fun k_ => some k_ ≠ (v474 : Value).ownBlock) v470 t468) ∧ Aside0 (Kd.R (Kd.int .i64) 3 wc w.heap.size (fun k_ => some k_ ≠ (v470 : Value).ownBlock) v474 t472) ∧ Aside0 (Below w.heap.size w wc))
              case first => as_aux_lemma =>
                have H := HC51.out
                clear HC51
                by_cases c52 : 0 ≤ a1
                · rw [if_pos c52] at H
                  have c52b0 : decide (0 ≤ a1) = true := decide_eq_true c52
                  clear c52
                  (first | rw [c52b0] | (simp only [i64_w, i32_w]; rw [c52b0]) | skip)
                  by_cases c53 : a1 < (t464.length : Int)
                  · rw [if_pos c53] at H
                    have c53b0 : decide (a1 < (t464.length : Int)) = true := decide_eq_true c53
                    clear c53
                    by_cases c54 : 0 < (t468.length : Int)
                    · rw [if_pos c54] at H
                      have c54b0 : decide (0 < (t468.length : Int)) = true := decide_eq_true c54
                      have c54b1 : decide (0 < t468.length) = true := decide_eq_true (by omega)
                      clear c54
                      by_cases c55 : (!(((rd_T43 t464 a1).f0) == (wrap64 ((l0.length : Int) - (t468.length : Int)))) || (!(((rd_T43 t464 a1).f1) == (rd t468 0)))) = true
                      · rw [if_pos c55] at H
                        have c55b0 : (!(((rd_T43 t464 a1).f0) == (wrap64 ((l0.length : Int) - (t468.length : Int)))) || (!(((rd_T43 t464 a1).f1) == (rd t468 0)))) = true := c55
                        clear c55
                        have H' := Aside0.mk H
                        clear H
                        obtain ⟨Ao56, co56, eo56⟩ := Kd.R_slice HO_8.out
                        subst eo56
                        have p477 : 0 ≤ (a1 : Int) := of_decide_eq_true (by first | (with_reducible assumption) | assumption)
                        have q477 : a1 < (t464.length : Int) := of_decide_eq_true (by first | (with_reducible assumption) | assumption)
                        obtain ⟨ad477, e477, hx477_0, hx477_1⟩ := at_T43 (Kd.R_reads' HO_8.out).2.2 a1 p477 q477
                        cases e477
                        replace p477 := eq_true p477
                        replace q477 := eq_true q477
                        obtain ⟨Ao57, co57, eo57⟩ := Kd.R_slice HO_10.out
                        subst eo57
                        have p478 : 0 ≤ (0 : Int) := (by omega)
                        have q478 : 0 < (t468.length : Int) := of_decide_eq_true (by first | (with_reducible assumption) | assumption)
                        obtain ⟨ad478, e478, hx478_0⟩ := Kd.at_int (Kd.R_reads' HO_10.out).2.2 0 p478 q478
                        cases e478
                        have qi478 : (0 < t468.length) = True := eq_true (by omega)
                        (try rw [show ((0 : Int)).toNat = 0 from rfl] at hx478_0)
                        (try rw [Addr.add_zero'] at hx478_0)
                        replace p478 := eq_true p478
                        replace q478 := eq_true q478
                        go_wp2
                        repeat (go_quiet (fail); try go_wp2)
                        go_meet
                        case rel => exact ⟨_, (true), (by first | rfl | (simp; done) | (simp [*]; done)), H', ⟨by have := HJ4.out; have := HJ23.out; first | omega | exact Nat.le_refl _⟩, ⟨by (with_reducible repeat (first | apply Kd.R_alloc | apply Kd.R_drewN | apply Kd.R_drew)); exact HO_10.out⟩, ⟨by (with_reducible repeat (first | apply Kd.R_alloc | apply Kd.R_drewN | apply Kd.R_drew)); exact HO_12.out⟩, ⟨by repeat (first | (with_reducible first | exact HB.out | apply below_alloc | apply pw_below_drewN | apply below_drew1) | exact HB.out)⟩⟩
                      · rw [if_neg c55] at H
                        have c55b0 : (!(((rd_T43 t464 a1).f0) == (wrap64 ((l0.length : Int) - (t468.length : Int)))) || (!(((rd_T43 t464 a1).f1) == (rd t468 0)))) = false := by simpa using c55
                        clear c55
                        by_cases c58 : 0 ≤ a2
                        · rw [if_pos c58] at H
                          have c58b0 : decide (0 ≤ a2) = true := decide_eq_true c58
                          clear c58
                          by_cases c59 : a2 < (t464.length : Int)
                          · rw [if_pos c59] at H
                            have c59b0 : decide (a2 < (t464.length : Int)) = true := decide_eq_true c59
                            clear c59
                            by_cases c60 : 0 < (t472.length : Int)
                            · rw [if_pos c60] at H
                              have c60b0 : decide (0 < (t472.length : Int)) = true := decide_eq_true c60
                              have c60b1 : decide (0 < t472.length) = true := decide_eq_true (by omega)
                              clear c60
                              by_cases c61 : (!(((rd_T43 t464 a2).f0) == (wrap64 ((l0.length : Int) - (t472.length : Int)))) || (!(((rd_T43 t464 a2).f1) == (rd t472 0)))) = true
                              · rw [if_pos c61] at H
                                have c61b0 : (!(((rd_T43 t464 a2).f0) == (wrap64 ((l0.length : Int) - (t472.length : Int)))) || (!(((rd_T43 t464 a2).f1) == (rd t472 0)))) = true := c61
                                clear c61
                                have H' := Aside0.mk H
                                clear H
                                obtain ⟨Ao62, co62, eo62⟩ := Kd.R_slice HO_8.out
                                subst eo62
                                have p477 : 0 ≤ (a1 : Int) := of_decide_eq_true (by first | (with_reducible assumption) | assumption)
                                have q477 : a1 < (t464.length : Int) := of_decide_eq_true (by first | (with_reducible assumption) | assumption)
                                obtain ⟨ad477, e477, hx477_0, hx477_1⟩ := at_T43 (Kd.R_reads' HO_8.out).2.2 a1 p477 q477
                                cases e477
                                replace p477 := eq_true p477
                                replace q477 := eq_true q477
                                obtain ⟨Ao63, co63, eo63⟩ := Kd.R_slice HO_10.out
                                subst eo63
                                have p478 : 0 ≤ (0 : Int) := (by omega)
                                have q478 : 0 < (t468.length : Int) := of_decide_eq_true (by first | (with_reducible assumption) | assumption)
                                obtain ⟨ad478, e478, hx478_0⟩ := Kd.at_int (Kd.R_reads' HO_10.out).2.2 0 p478 q478
                                cases e478
                                have qi478 : (0 < t468.length) = True := eq_true (by omega)
                                (try rw [show ((0 : Int)).toNat = 0 from rfl] at hx478_0)
                                (try rw [Addr.add_zero'] at hx478_0)
                                replace p478 := eq_true p478
                                replace q478 := eq_true q478
                                have p479 : 0 ≤ (a2 : Int) := of_decide_eq_true (by first | (with_reducible assumption) | assumption)
                                have q479 : a2 < (t464.length : Int) := of_decide_eq_true (by first | (with_reducible assumption) | assumption)
                                obtain ⟨ad479, e479, hx479_0, hx479_1⟩ := at_T43 (Kd.R_reads' HO_8.out).2.2 a2 p479 q479
                                obtain rfl : ad477 = ad479 := (by injection e479)
                                replace p479 := eq_true p479
                                replace q479 := eq_true q479
                                obtain ⟨Ao64, co64, eo64⟩ := Kd.R_slice HO_12.out
                                subst eo64
                                have p480 : 0 ≤ (0 : Int) := (by omega)
                                have q480 : 0 < (t472.length : Int) := of_decide_eq_true (by first | (with_reducible assumption) | assumption)
                                obtain ⟨ad480, e480, hx480_0⟩ := Kd.at_int (Kd.R_reads' HO_12.out).2.2 0 p480 q480
                                cases e480
                                have qi480 : (0 < t472.length) = True := eq_true (by omega)
                                (try rw [show ((0 : Int)).toNat = 0 from rfl] at hx480_0)
                                (try rw [Addr.add_zero'] at hx480_0)
                                replace p480 := eq_true p480
                                replace q480 := eq_true q480
                                go_wp2
                                repeat (go_quiet (fail); try go_wp2)
                                go_meet
                                case rel => exact ⟨_, (true), (by first | rfl | (simp; done) | (simp [*]; done)), H', ⟨by have := HJ4.out; have := HJ23.out; first | omega | exact Nat.le_refl _⟩, ⟨by (with_reducible repeat (first | apply Kd.R_alloc | apply Kd.R_drewN | apply Kd.R_drew)); exact HO_10.out⟩, ⟨by (with_reducible repeat (first | apply Kd.R_alloc | apply Kd.R_drewN | apply Kd.R_drew)); exact HO_12.out⟩, ⟨by repeat (first | (with_reducible first | exact HB.out | apply below_alloc | apply pw_below_drewN | apply below_drew1) | exact HB.out)⟩⟩
                              · rw [if_neg c61] at H
                                have c61b0 : (!(((rd_T43 t464 a2).f0) == (wrap64 ((l0.length : Int) - (t472.length : Int)))) || (!(((rd_T43 t464 a2).f1) == (rd t472 0)))) = false := by simpa using c61
                                clear c61
                                obtain ⟨ji65, hji65⟩ : ∃ j_ : Int, (wrap64 ((t468.length : Int) - 1)) = j_ := ⟨_, rfl⟩
                                replace H : (if 0 ≤ (ji65) then (if (ji65) < (t468.length : Int) then (if (rd t468 (ji65)) = a1 then (if 0 ≤ (wrap64 ((t472.length : Int) - 1)) then (if (wrap64 ((t472.length : Int) - 1)) < (t472.length : Int) then (sidinglaw23_BlameTraces.j2 kj23 l0 a1 t461 t468 t472 ((rd t472 (wrap64 ((t472.length : Int) - 1))) != a2)) else (none)) else (none)) else (sidinglaw23_BlameTraces.j2 kj23 l0 a1 t461 t468 t472 true)) else (none)) else (none)) = some r := by first | (rw [hji65] at H; exact H) | (simp only [hji65] at H ⊢; exact H)
                                have hji65w : (IntKind.i64.wrap ((t468.length : Int) - 1)) = ji65 := (i64_w _).trans hji65
                                by_cases c66 : 0 ≤ (ji65)
                                · rw [if_pos c66] at H
                                  have c66b0 : decide (0 ≤ (ji65)) = true := decide_eq_true c66
                                  clear c66
                                  by_cases c67 : (ji65) < (t468.length : Int)
                                  · rw [if_pos c67] at H
                                    have c67b0 : decide ((ji65) < (t468.length : Int)) = true := decide_eq_true c67
                                    clear c67
                                    by_cases c68 : (rd t468 (ji65)) = a1
                                    · rw [if_pos c68] at H
                                      have c68b0 : ((rd t468 (ji65)) == a1) = true := beq_iff_eq.mpr c68
                                      have c68b1 : ((rd t468 (ji65)) != a1) = false := bne_eq_false_iff_eq.mpr c68
                                      clear c68
                                      obtain ⟨ji69, hji69⟩ : ∃ j_ : Int, (wrap64 ((t472.length : Int) - 1)) = j_ := ⟨_, rfl⟩
                                      replace H : (if 0 ≤ (ji69) then (if (ji69) < (t472.length : Int) then (sidinglaw23_BlameTraces.j2 kj23 l0 a1 t461 t468 t472 ((rd t472 (ji69)) != a2)) else (none)) else (none)) = some r := by first | (rw [hji69] at H; exact H) | (simp only [hji69] at H ⊢; exact H)
                                      have hji69w : (IntKind.i64.wrap ((t472.length : Int) - 1)) = ji69 := (i64_w _).trans hji69
                                      by_cases c70 : 0 ≤ (ji69)
                                      · rw [if_pos c70] at H
                                        have c70b0 : decide (0 ≤ (ji69)) = true := decide_eq_true c70
                                        clear c70
                                        by_cases c71 : (ji69) < (t472.length : Int)
                                        · rw [if_pos c71] at H
                                          have c71b0 : decide ((ji69) < (t472.length : Int)) = true := decide_eq_true c71
                                          clear c71
                                          have H' := Aside0.mk H
                                          clear H
                                          obtain ⟨Ao72, co72, eo72⟩ := Kd.R_slice HO_8.out
                                          subst eo72
                                          have p477 : 0 ≤ (a1 : Int) := of_decide_eq_true (by first | (with_reducible assumption) | assumption)
                                          have q477 : a1 < (t464.length : Int) := of_decide_eq_true (by first | (with_reducible assumption) | assumption)
                                          obtain ⟨ad477, e477, hx477_0, hx477_1⟩ := at_T43 (Kd.R_reads' HO_8.out).2.2 a1 p477 q477
                                          cases e477
                                          replace p477 := eq_true p477
                                          replace q477 := eq_true q477
                                          obtain ⟨Ao73, co73, eo73⟩ := Kd.R_slice HO_10.out
                                          subst eo73
                                          have p478 : 0 ≤ (0 : Int) := (by omega)
                                          have q478 : 0 < (t468.length : Int) := of_decide_eq_true (by first | (with_reducible assumption) | assumption)
                                          obtain ⟨ad478, e478, hx478_0⟩ := Kd.at_int (Kd.R_reads' HO_10.out).2.2 0 p478 q478
                                          cases e478
                                          have qi478 : (0 < t468.length) = True := eq_true (by omega)
                                          (try rw [show ((0 : Int)).toNat = 0 from rfl] at hx478_0)
                                          (try rw [Addr.add_zero'] at hx478_0)
                                          replace p478 := eq_true p478
                                          replace q478 := eq_true q478
                                          have p479 : 0 ≤ (a2 : Int) := of_decide_eq_true (by first | (with_reducible assumption) | assumption)
                                          have q479 : a2 < (t464.length : Int) := of_decide_eq_true (by first | (with_reducible assumption) | assumption)
                                          obtain ⟨ad479, e479, hx479_0, hx479_1⟩ := at_T43 (Kd.R_reads' HO_8.out).2.2 a2 p479 q479
                                          obtain rfl : ad477 = ad479 := (by injection e479)
                                          replace p479 := eq_true p479
                                          replace q479 := eq_true q479
                                          obtain ⟨Ao74, co74, eo74⟩ := Kd.R_slice HO_12.out
                                          subst eo74
                                          have p480 : 0 ≤ (0 : Int) := (by omega)
                                          have q480 : 0 < (t472.length : Int) := of_decide_eq_true (by first | (with_reducible assumption) | assumption)
                                          obtain ⟨ad480, e480, hx480_0⟩ := Kd.at_int (Kd.R_reads' HO_12.out).2.2 0 p480 q480
                                          cases e480
                                          have qi480 : (0 < t472.length) = True := eq_true (by omega)
                                          (try rw [show ((0 : Int)).toNat = 0 from rfl] at hx480_0)
                                          (try rw [Addr.add_zero'] at hx480_0)
                                          replace p480 := eq_true p480
                                          replace q480 := eq_true q480
                                          have p481 : 0 ≤ ((ji65) : Int) := of_decide_eq_true (by first | (with_reducible assumption) | assumption)
                                          have q481 : (ji65) < (t468.length : Int) := of_decide_eq_true (by first | (with_reducible assumption) | assumption)
                                          obtain ⟨ad481, e481, hx481_0⟩ := Kd.at_int (Kd.R_reads' HO_10.out).2.2 (ji65) p481 q481
                                          obtain rfl : ad478 = ad481 := (by injection e481)
                                          replace p481 := eq_true p481
                                          replace q481 := eq_true q481
                                          have p482 : 0 ≤ ((ji69) : Int) := of_decide_eq_true (by first | (with_reducible assumption) | assumption)
                                          have q482 : (ji69) < (t472.length : Int) := of_decide_eq_true (by first | (with_reducible assumption) | assumption)
                                          obtain ⟨ad482, e482, hx482_0⟩ := Kd.at_int (Kd.R_reads' HO_12.out).2.2 (ji69) p482 q482
                                          obtain rfl : ad480 = ad482 := (by injection e482)
                                          replace p482 := eq_true p482
                                          replace q482 := eq_true q482
                                          go_wp2
                                          repeat (go_quiet (fail); try go_wp2)
                                          go_meet
                                          case rel => exact ⟨_, (((rd t472 (ji69)) != a2)), (by first | rfl | (simp; done) | (simp only [← hji69] <;> (first | rfl | simp)) | (simp [*]; done)), H', ⟨by have := HJ4.out; have := HJ23.out; first | omega | exact Nat.le_refl _⟩, ⟨by (with_reducible repeat (first | apply Kd.R_alloc | apply Kd.R_drewN | apply Kd.R_drew)); exact HO_10.out⟩, ⟨by (with_reducible repeat (first | apply Kd.R_alloc | apply Kd.R_drewN | apply Kd.R_drew)); exact HO_12.out⟩, ⟨by repeat (first | (with_reducible first | exact HB.out | apply below_alloc | apply pw_below_drewN | apply below_drew1) | exact HB.out)⟩⟩
                                        · rw [if_neg c71] at H
                                          exact absurd H (by simp)
                                      · rw [if_neg c70] at H
                                        exact absurd H (by simp)
                                    · rw [if_neg c68] at H
                                      have c68b0 : ((rd t468 (ji65)) == a1) = false := beq_eq_false_iff_ne.mpr c68
                                      have c68b1 : ((rd t468 (ji65)) != a1) = true := bne_iff_ne.mpr c68
                                      have H' := Aside0.mk H
                                      clear H
                                      obtain ⟨Ao75, co75, eo75⟩ := Kd.R_slice HO_8.out
                                      subst eo75
                                      have p477 : 0 ≤ (a1 : Int) := of_decide_eq_true (by first | (with_reducible assumption) | assumption)
                                      have q477 : a1 < (t464.length : Int) := of_decide_eq_true (by first | (with_reducible assumption) | assumption)
                                      obtain ⟨ad477, e477, hx477_0, hx477_1⟩ := at_T43 (Kd.R_reads' HO_8.out).2.2 a1 p477 q477
                                      cases e477
                                      replace p477 := eq_true p477
                                      replace q477 := eq_true q477
                                      obtain ⟨Ao76, co76, eo76⟩ := Kd.R_slice HO_10.out
                                      subst eo76
                                      have p478 : 0 ≤ (0 : Int) := (by omega)
                                      have q478 : 0 < (t468.length : Int) := of_decide_eq_true (by first | (with_reducible assumption) | assumption)
                                      obtain ⟨ad478, e478, hx478_0⟩ := Kd.at_int (Kd.R_reads' HO_10.out).2.2 0 p478 q478
                                      cases e478
                                      have qi478 : (0 < t468.length) = True := eq_true (by omega)
                                      (try rw [show ((0 : Int)).toNat = 0 from rfl] at hx478_0)
                                      (try rw [Addr.add_zero'] at hx478_0)
                                      replace p478 := eq_true p478
                                      replace q478 := eq_true q478
                                      have p479 : 0 ≤ (a2 : Int) := of_decide_eq_true (by first | (with_reducible assumption) | assumption)
                                      have q479 : a2 < (t464.length : Int) := of_decide_eq_true (by first | (with_reducible assumption) | assumption)
                                      obtain ⟨ad479, e479, hx479_0, hx479_1⟩ := at_T43 (Kd.R_reads' HO_8.out).2.2 a2 p479 q479
                                      obtain rfl : ad477 = ad479 := (by injection e479)
                                      replace p479 := eq_true p479
                                      replace q479 := eq_true q479
                                      obtain ⟨Ao77, co77, eo77⟩ := Kd.R_slice HO_12.out
                                      subst eo77
                                      have p480 : 0 ≤ (0 : Int) := (by omega)
                                      have q480 : 0 < (t472.length : Int) := of_decide_eq_true (by first | (with_reducible assumption) | assumption)
                                      obtain ⟨ad480, e480, hx480_0⟩ := Kd.at_int (Kd.R_reads' HO_12.out).2.2 0 p480 q480
                                      cases e480
                                      have qi480 : (0 < t472.length) = True := eq_true (by omega)
                                      (try rw [show ((0 : Int)).toNat = 0 from rfl] at hx480_0)
                                      (try rw [Addr.add_zero'] at hx480_0)
                                      replace p480 := eq_true p480
                                      replace q480 := eq_true q480
                                      have p481 : 0 ≤ ((ji65) : Int) := of_decide_eq_true (by first | (with_reducible assumption) | assumption)
                                      have q481 : (ji65) < (t468.length : Int) := of_decide_eq_true (by first | (with_reducible assumption) | assumption)
                                      obtain ⟨ad481, e481, hx481_0⟩ := Kd.at_int (Kd.R_reads' HO_10.out).2.2 (ji65) p481 q481
                                      obtain rfl : ad478 = ad481 := (by injection e481)
                                      replace p481 := eq_true p481
                                      replace q481 := eq_true q481
                                      go_wp2
                                      repeat (go_quiet (fail); try go_wp2)
                                      go_meet
                                      case rel => exact ⟨_, (true), (by first | rfl | (simp; done) | (simp [*]; done)), H', ⟨by have := HJ4.out; have := HJ23.out; first | omega | exact Nat.le_refl _⟩, ⟨by (with_reducible repeat (first | apply Kd.R_alloc | apply Kd.R_drewN | apply Kd.R_drew)); exact HO_10.out⟩, ⟨by (with_reducible repeat (first | apply Kd.R_alloc | apply Kd.R_drewN | apply Kd.R_drew)); exact HO_12.out⟩, ⟨by repeat (first | (with_reducible first | exact HB.out | apply below_alloc | apply pw_below_drewN | apply below_drew1) | exact HB.out)⟩⟩
                                  · rw [if_neg c67] at H
                                    exact absurd H (by simp)
                                · rw [if_neg c66] at H
                                  exact absurd H (by simp)
                            · rw [if_neg c60] at H
                              exact absurd H (by simp)
                          · rw [if_neg c59] at H
                            exact absurd H (by simp)
                        · rw [if_neg c58] at H
                          exact absurd H (by simp)
                    · rw [if_neg c54] at H
                      exact absurd H (by simp)
                  · rw [if_neg c53] at H
                    exact absurd H (by simp)
                · rw [if_neg c52] at H
                  exact absurd H (by simp)
              case rest => as_aux_lemma =>
                clear HC51
                try clear c1
                try clear c2
                try clear p2
                try clear c3
                try clear c4
                try clear p4
                try clear q4
                try clear hx4
                try clear qi4
                try clear c5
                try clear c6
                try clear p6
                try clear c7
                try clear c8
                try clear c9
                try clear c9b0
                try clear c11
                try clear c11b0
                try clear c14
                try clear c14b0
                try clear c15
                try clear c15b0
                try clear c16
                try clear c16b0
                try clear c20
                try clear c28
                try clear c28b0
                try clear c28b1
                try clear c29
                try clear c29b0
                try clear c29b1
                try clear c30
                try clear c30b0
                try clear c30b1
                try clear c32
                try clear c32b0
                try clear c33
                try clear c33b0
                try clear c34
                try clear c34b0
                try clear c34b1
                try clear c34b2
                try clear c35
                try clear c35b0
                try clear c35b1
                try clear c35b2
                try clear c38
                try clear c38b0
                try clear c38b1
                try clear c38b2
                try clear c42
                try clear c42b0
                try clear c42b1
                try clear c46
                try clear p46
                try clear q46
                try clear hx46
                try clear c47
                try clear p47
                try clear q47
                try clear hx47
                try clear qi47
                try clear p48
                try clear q48
                try clear hx48
                try clear qi48
                try clear c50
                try clear c52
                try clear c52b0
                try clear c53
                try clear c53b0
                try clear c54
                try clear c54b0
                try clear c54b1
                try clear c55
                try clear c55b0
                try clear c58
                try clear c58b0
                try clear c59
                try clear c59b0
                try clear c60
                try clear c60b0
                try clear c60b1
                try clear c61
                try clear c61b0
                try clear p64
                try clear c66
                try clear c66b0
                try clear c67
                try clear c67b0
                try clear c68
                try clear c68b0
                try clear c68b1
                try clear c70
                try clear c70b0
                try clear c71
                try clear c71b0
                try clear hx463_0
                try clear hx476_0
                try clear hx477_0
                try clear hx477_1
                try clear hx478_0
                try clear hx479_0
                try clear hx479_1
                try clear hx480_0
                try clear hx481_0
                try clear hx482_0
                try clear p2
                try clear p4
                try clear p46
                try clear p463
                try clear p47
                try clear p476
                try clear p477
                try clear p478
                try clear p479
                try clear p480
                try clear p481
                try clear p482
                try clear p6
                try clear q4
                try clear q46
                try clear q463
                try clear q47
                try clear q476
                try clear q477
                try clear q478
                try clear q479
                try clear q480
                try clear q481
                try clear q482
                obtain ⟨kq, x158_50, rfl, HA, HJ50, HO_10, HO_12, HB⟩ := hcut
                cases kq with
                | zero => exact absurd HA.out (by simp [sidinglaw23_BlameTraces.j2])
                | succ kj50 =>
                  have H := HA.out
                  clear HA
                  simp only [sidinglaw23_BlameTraces.j2] at H
                  by_cases c78 : x158_50 = true
                  · subst c78
                    have H1 : (some false) = some r := by rw [if_pos rfl] at H; exact H
                    clear H
                    have H := H1
                    clear H1
                    obtain rfl := Option.some.inj H
                    go_wp2
                    repeat (go_quiet (fail); try go_wp2)
                    go_ret
                    exact ⟨by first | rfl | (simp [errW_none, errW_some] <;> rfl) | (simp [*, errW_none, errW_some] <;> rfl), by repeat (first | (with_reducible first | exact HB.out | apply below_alloc | apply pw_below_drewN | apply below_drew1) | exact HB.out)⟩
                  · replace c78 := Bool.eq_false_iff.mpr c78
                    subst c78
                    have H1 : (sidinglaw23_BlameTraces.l0 kj50 l0 a1 t461 t468 t472 0) = some r := by rw [if_neg (show ¬ (false = true) by decide)] at H; exact H
                    clear H
                    have H := H1
                    clear H1
                    have H' := Aside0.mk H
                    clear H
                    go_wp2
                    repeat (go_quiet (fail); try go_wp2)
                    go_loopg [14] kj50 (fun kq v14 w' => ∃ (x14_4 : Int), v14 = .int .i64 x14_4 ∧ Aside0 (sidinglaw23_BlameTraces.l0 kq l0 a1 t461 t468 t472 x14_4 = some r) ∧ Aside0 (kq ≤ kj50) ∧ Aside0 (Kd.R (Kd.int .i64) 3 w' w.heap.size (fun k_ => some k_ ≠ (v474 : Value).ownBlock) v470 t468) ∧ Aside0 (Kd.R (Kd.int .i64) 3 w' w.heap.size (fun k_ => some k_ ≠ (v470 : Value).ownBlock) v474 t472) ∧ Aside0 (Below w.heap.size w w'))
                    case atStart => exact ⟨(0), (by first | rfl | (simp; done) | (simp [*]; done)), H', ⟨Nat.le_refl _⟩, ⟨by (with_reducible repeat (first | apply Kd.R_alloc | apply Kd.R_drewN | apply Kd.R_drew)); exact HO_10.out⟩, ⟨by (with_reducible repeat (first | apply Kd.R_alloc | apply Kd.R_drewN | apply Kd.R_drew)); exact HO_12.out⟩, ⟨by repeat (first | (with_reducible first | exact HB.out | apply below_alloc | apply pw_below_drewN | apply below_drew1) | exact HB.out)⟩⟩
                    case round => as_aux_lemma =>
                      clear H'
                      try clear c1
                      try clear c2
                      try clear p2
                      try clear c3
                      try clear c4
                      try clear p4
                      try clear q4
                      try clear hx4
                      try clear qi4
                      try clear c5
                      try clear c6
                      try clear p6
                      try clear c7
                      try clear c8
                      try clear c9
                      try clear c9b0
                      try clear c11
                      try clear c11b0
                      try clear c14
                      try clear c14b0
                      try clear c15
                      try clear c15b0
                      try clear c16
                      try clear c16b0
                      try clear c20
                      try clear c28
                      try clear c28b0
                      try clear c28b1
                      try clear c29
                      try clear c29b0
                      try clear c29b1
                      try clear c30
                      try clear c30b0
                      try clear c30b1
                      try clear c32
                      try clear c32b0
                      try clear c33
                      try clear c33b0
                      try clear c34
                      try clear c34b0
                      try clear c34b1
                      try clear c34b2
                      try clear c35
                      try clear c35b0
                      try clear c35b1
                      try clear c35b2
                      try clear c38
                      try clear c38b0
                      try clear c38b1
                      try clear c38b2
                      try clear c42
                      try clear c42b0
                      try clear c42b1
                      try clear c46
                      try clear p46
                      try clear q46
                      try clear hx46
                      try clear c47
                      try clear p47
                      try clear q47
                      try clear hx47
                      try clear qi47
                      try clear p48
                      try clear q48
                      try clear hx48
                      try clear qi48
                      try clear c50
                      try clear c52
                      try clear c52b0
                      try clear c53
                      try clear c53b0
                      try clear c54
                      try clear c54b0
                      try clear c54b1
                      try clear c55
                      try clear c55b0
                      try clear c58
                      try clear c58b0
                      try clear c59
                      try clear c59b0
                      try clear c60
                      try clear c60b0
                      try clear c60b1
                      try clear c61
                      try clear c61b0
                      try clear p64
                      try clear c66
                      try clear c66b0
                      try clear c67
                      try clear c67b0
                      try clear c68
                      try clear c68b0
                      try clear c68b1
                      try clear c70
                      try clear c70b0
                      try clear c71
                      try clear c71b0
                      try clear c78
                      try clear hx463_0
                      try clear hx476_0
                      try clear hx477_0
                      try clear hx477_1
                      try clear hx478_0
                      try clear hx479_0
                      try clear hx479_1
                      try clear hx480_0
                      try clear hx481_0
                      try clear hx482_0
                      try clear p2
                      try clear p4
                      try clear p46
                      try clear p463
                      try clear p47
                      try clear p476
                      try clear p477
                      try clear p478
                      try clear p479
                      try clear p48
                      try clear p480
                      try clear p481
                      try clear p482
                      try clear p6
                      try clear p64
                      try clear q4
                      try clear q46
                      try clear q463
                      try clear q47
                      try clear q476
                      try clear q477
                      try clear q478
                      try clear q479
                      try clear q48
                      try clear q480
                      try clear q481
                      try clear q482
                      obtain ⟨x14_4, rfl, HA, HK4, HO_10, HO_12, HB⟩ := hrel
                      cases gk with
                      | zero => exact absurd HA.out (by simp [sidinglaw23_BlameTraces.l0])
                      | succ k4 =>
                        have H := HA.out
                        clear HA
                        simp only [sidinglaw23_BlameTraces.l0] at H
                        by_cases c79 : x14_4 < (t468.length : Int)
                        · rw [if_pos c79] at H
                          have c79b0 : decide (x14_4 < (t468.length : Int)) = true := decide_eq_true c79
                          clear c79
                          obtain ⟨ji80, hji80⟩ : ∃ j_ : Int, (wrap64 ((wrap64 ((l0.length : Int) - (t468.length : Int))) + x14_4)) = j_ := ⟨_, rfl⟩
                          replace H : (if 0 ≤ (ji80) then (if (ji80) < (l0.length : Int) then (if 0 ≤ x14_4 then (if (rd t468 x14_4) < 0 then (some false) else (if (rd t468 x14_4) ≥ ((rd_Lstr l0 (ji80)).length : Int) then (some false) else (if 0 ≤ (rd t468 x14_4) then (if (rd t468 x14_4) < ((rd_Lstr l0 (ji80)).length : Int) then (if 0 ≤ (wrap64 ((l0.length : Int) - 1)) then (if (wrap64 ((l0.length : Int) - 1)) < (l0.length : Int) then (if 0 ≤ a1 then (if a1 < ((rd_Lstr l0 (wrap64 ((l0.length : Int) - 1))).length : Int) then (if (rdOf ByteArray.empty (rd_Lstr l0 (ji80)) (rd t468 x14_4)).toList = (rdOf ByteArray.empty (rd_Lstr l0 (wrap64 ((l0.length : Int) - 1))) a1).toList then (sidinglaw23_BlameTraces.l0 k4 l0 a1 t461 t468 t472 (wrap64 (x14_4 + 1))) else (some false)) else (none)) else (none)) else (none)) else (none)) else (none)) else (none)))) else (none)) else (none)) else (none)) = some r := by first | (rw [hji80] at H; exact H) | (simp only [hji80] at H ⊢; exact H)
                          have hji80w : (IntKind.i64.wrap ((wrap64 ((l0.length : Int) - (t468.length : Int))) + x14_4)) = ji80 := (i64_w _).trans hji80
                          by_cases c81 : 0 ≤ (ji80)
                          · rw [if_pos c81] at H
                            have c81b0 : decide (0 ≤ (ji80)) = true := decide_eq_true c81
                            clear c81
                            by_cases c82 : (ji80) < (l0.length : Int)
                            · rw [if_pos c82] at H
                              have c82b0 : decide ((ji80) < (l0.length : Int)) = true := decide_eq_true c82
                              clear c82
                              by_cases c83 : 0 ≤ x14_4
                              · rw [if_pos c83] at H
                                have c83b0 : decide (0 ≤ x14_4) = true := decide_eq_true c83
                                clear c83
                                by_cases c84 : (rd t468 x14_4) < 0
                                · rw [if_pos c84] at H
                                  have c84b0 : decide ((rd t468 x14_4) < 0) = true := decide_eq_true c84
                                  clear c84
                                  obtain rfl := Option.some.inj H
                                  obtain ⟨Ao85, co85, eo85⟩ := Kd.R_slice HO_10.out
                                  subst eo85
                                  have p483 : 0 ≤ ((ji80) : Int) := of_decide_eq_true (by first | (with_reducible assumption) | assumption)
                                  have q483 : (ji80) < (l0.length : Int) := of_decide_eq_true (by first | (with_reducible assumption) | assumption)
                                  obtain ⟨ad483, A483_0, c483_0, e483, hx483_0, hl483_0, hi483_0⟩ := at_Lstr HR0.out (ji80) p483 q483
                                  cases e483
                                  replace hx483_0 := (HB.out.cell (World.block_lt_of_cell? w _ hx483_0)).trans hx483_0
                                  have HR483_0 := Aside0.mk hi483_0
                                  have HC483_0 := Aside0.mk hl483_0
                                  clear hi483_0 hl483_0
                                  replace p483 := eq_true p483
                                  replace q483 := eq_true q483
                                  have p484 : 0 ≤ (x14_4 : Int) := of_decide_eq_true (by first | (with_reducible assumption) | assumption)
                                  have q484 : x14_4 < (t468.length : Int) := of_decide_eq_true (by first | (with_reducible assumption) | assumption)
                                  obtain ⟨ad484, e484, hx484_0⟩ := Kd.at_int (Kd.R_reads' HO_10.out).2.2 x14_4 p484 q484
                                  cases e484
                                  replace p484 := eq_true p484
                                  replace q484 := eq_true q484
                                  go_wp2
                                  repeat (go_quiet (fail); try go_wp2)
                                  go_ret
                                  exact ⟨by first | rfl | (simp [errW_none, errW_some] <;> rfl) | (simp only [← hji80]; first | rfl | (simp [errW_none, errW_some] <;> rfl)) | (simp [*, errW_none, errW_some] <;> rfl), by repeat (first | (with_reducible first | exact HB.out | apply below_alloc | apply pw_below_drewN | apply below_drew1) | exact HB.out)⟩
                                · rw [if_neg c84] at H
                                  have c84b0 : decide ((rd t468 x14_4) < 0) = false := decide_eq_false c84
                                  clear c84
                                  by_cases c86 : (rd t468 x14_4) ≥ ((rd_Lstr l0 (ji80)).length : Int)
                                  · rw [if_pos c86] at H
                                    have c86b0 : decide (((rd_Lstr l0 (ji80)).length : Int) ≤ (rd t468 x14_4)) = true := decide_eq_true c86
                                    clear c86
                                    obtain rfl := Option.some.inj H
                                    obtain ⟨Ao87, co87, eo87⟩ := Kd.R_slice HO_10.out
                                    subst eo87
                                    have p483 : 0 ≤ ((ji80) : Int) := of_decide_eq_true (by first | (with_reducible assumption) | assumption)
                                    have q483 : (ji80) < (l0.length : Int) := of_decide_eq_true (by first | (with_reducible assumption) | assumption)
                                    obtain ⟨ad483, A483_0, c483_0, e483, hx483_0, hl483_0, hi483_0⟩ := at_Lstr HR0.out (ji80) p483 q483
                                    cases e483
                                    replace hx483_0 := (HB.out.cell (World.block_lt_of_cell? w _ hx483_0)).trans hx483_0
                                    have HR483_0 := Aside0.mk hi483_0
                                    have HC483_0 := Aside0.mk hl483_0
                                    clear hi483_0 hl483_0
                                    replace p483 := eq_true p483
                                    replace q483 := eq_true q483
                                    have p484 : 0 ≤ (x14_4 : Int) := of_decide_eq_true (by first | (with_reducible assumption) | assumption)
                                    have q484 : x14_4 < (t468.length : Int) := of_decide_eq_true (by first | (with_reducible assumption) | assumption)
                                    obtain ⟨ad484, e484, hx484_0⟩ := Kd.at_int (Kd.R_reads' HO_10.out).2.2 x14_4 p484 q484
                                    cases e484
                                    replace p484 := eq_true p484
                                    replace q484 := eq_true q484
                                    have p485 : 0 ≤ (x14_4 : Int) := of_decide_eq_true (by first | (with_reducible assumption) | assumption)
                                    have q485 : x14_4 < (t468.length : Int) := of_decide_eq_true (by first | (with_reducible assumption) | assumption)
                                    obtain ⟨ad485, e485, hx485_0⟩ := Kd.at_int (Kd.R_reads' HO_10.out).2.2 x14_4 p485 q485
                                    obtain rfl : ad484 = ad485 := (by injection e485)
                                    replace p485 := eq_true p485
                                    replace q485 := eq_true q485
                                    go_wp2
                                    repeat (go_quiet (fail); try go_wp2)
                                    go_ret
                                    exact ⟨by first | rfl | (simp [errW_none, errW_some] <;> rfl) | (simp only [← hji80]; first | rfl | (simp [errW_none, errW_some] <;> rfl)) | (simp [*, errW_none, errW_some] <;> rfl), by repeat (first | (with_reducible first | exact HB.out | apply below_alloc | apply pw_below_drewN | apply below_drew1) | exact HB.out)⟩
                                  · rw [if_neg c86] at H
                                    have c86b0 : decide (((rd_Lstr l0 (ji80)).length : Int) ≤ (rd t468 x14_4)) = false := decide_eq_false c86
                                    clear c86
                                    by_cases c88 : 0 ≤ (rd t468 x14_4)
                                    · rw [if_pos c88] at H
                                      have c88b0 : decide (0 ≤ (rd t468 x14_4)) = true := decide_eq_true c88
                                      clear c88
                                      by_cases c89 : (rd t468 x14_4) < ((rd_Lstr l0 (ji80)).length : Int)
                                      · rw [if_pos c89] at H
                                        have c89b0 : decide ((rd t468 x14_4) < ((rd_Lstr l0 (ji80)).length : Int)) = true := decide_eq_true c89
                                        clear c89
                                        obtain ⟨ji90, hji90⟩ : ∃ j_ : Int, (wrap64 ((l0.length : Int) - 1)) = j_ := ⟨_, rfl⟩
                                        replace H : (if 0 ≤ (ji90) then (if (ji90) < (l0.length : Int) then (if 0 ≤ a1 then (if a1 < ((rd_Lstr l0 (ji90)).length : Int) then (if (rdOf ByteArray.empty (rd_Lstr l0 (ji80)) (rd t468 x14_4)).toList = (rdOf ByteArray.empty (rd_Lstr l0 (ji90)) a1).toList then (sidinglaw23_BlameTraces.l0 k4 l0 a1 t461 t468 t472 (wrap64 (x14_4 + 1))) else (some false)) else (none)) else (none)) else (none)) else (none)) = some r := by first | (rw [hji90] at H; exact H) | (simp only [hji90] at H ⊢; exact H)
                                        have hji90w : (IntKind.i64.wrap ((l0.length : Int) - 1)) = ji90 := (i64_w _).trans hji90
                                        by_cases c91 : 0 ≤ (ji90)
                                        · rw [if_pos c91] at H
                                          have c91b0 : decide (0 ≤ (ji90)) = true := decide_eq_true c91
                                          clear c91
                                          by_cases c92 : (ji90) < (l0.length : Int)
                                          · rw [if_pos c92] at H
                                            have c92b0 : decide ((ji90) < (l0.length : Int)) = true := decide_eq_true c92
                                            clear c92
                                            by_cases c93 : 0 ≤ a1
                                            · rw [if_pos c93] at H
                                              have c93b0 : decide (0 ≤ a1) = true := decide_eq_true c93
                                              clear c93
                                              by_cases c94 : a1 < ((rd_Lstr l0 (ji90)).length : Int)
                                              · rw [if_pos c94] at H
                                                have c94b0 : decide (a1 < ((rd_Lstr l0 (ji90)).length : Int)) = true := decide_eq_true c94
                                                clear c94
                                                by_cases c95 : (rdOf ByteArray.empty (rd_Lstr l0 (ji80)) (rd t468 x14_4)).toList = (rdOf ByteArray.empty (rd_Lstr l0 (ji90)) a1).toList
                                                · rw [if_pos c95] at H
                                                  have c95b0 : ((rdOf ByteArray.empty (rd_Lstr l0 (ji80)) (rd t468 x14_4)).toList == (rdOf ByteArray.empty (rd_Lstr l0 (ji90)) a1).toList) = true := beq_iff_eq.mpr c95
                                                  have c95b1 : ((rdOf ByteArray.empty (rd_Lstr l0 (ji80)) (rd t468 x14_4)).toList != (rdOf ByteArray.empty (rd_Lstr l0 (ji90)) a1).toList) = false := bne_eq_false_iff_eq.mpr c95
                                                  clear c95
                                                  have H' := Aside0.mk H
                                                  clear H
                                                  obtain ⟨Ao96, co96, eo96⟩ := Kd.R_slice HO_10.out
                                                  subst eo96
                                                  have p483 : 0 ≤ ((ji80) : Int) := of_decide_eq_true (by first | (with_reducible assumption) | assumption)
                                                  have q483 : (ji80) < (l0.length : Int) := of_decide_eq_true (by first | (with_reducible assumption) | assumption)
                                                  obtain ⟨ad483, A483_0, c483_0, e483, hx483_0, hl483_0, hi483_0⟩ := at_Lstr HR0.out (ji80) p483 q483
                                                  cases e483
                                                  replace hx483_0 := (HB.out.cell (World.block_lt_of_cell? w _ hx483_0)).trans hx483_0
                                                  have HR483_0 := Aside0.mk hi483_0
                                                  have HC483_0 := Aside0.mk hl483_0
                                                  clear hi483_0 hl483_0
                                                  replace p483 := eq_true p483
                                                  replace q483 := eq_true q483
                                                  have p484 : 0 ≤ (x14_4 : Int) := of_decide_eq_true (by first | (with_reducible assumption) | assumption)
                                                  have q484 : x14_4 < (t468.length : Int) := of_decide_eq_true (by first | (with_reducible assumption) | assumption)
                                                  obtain ⟨ad484, e484, hx484_0⟩ := Kd.at_int (Kd.R_reads' HO_10.out).2.2 x14_4 p484 q484
                                                  cases e484
                                                  replace p484 := eq_true p484
                                                  replace q484 := eq_true q484
                                                  have p485 : 0 ≤ (x14_4 : Int) := of_decide_eq_true (by first | (with_reducible assumption) | assumption)
                                                  have q485 : x14_4 < (t468.length : Int) := of_decide_eq_true (by first | (with_reducible assumption) | assumption)
                                                  obtain ⟨ad485, e485, hx485_0⟩ := Kd.at_int (Kd.R_reads' HO_10.out).2.2 x14_4 p485 q485
                                                  obtain rfl : ad484 = ad485 := (by injection e485)
                                                  replace p485 := eq_true p485
                                                  replace q485 := eq_true q485
                                                  have p486 : 0 ≤ (x14_4 : Int) := of_decide_eq_true (by first | (with_reducible assumption) | assumption)
                                                  have q486 : x14_4 < (t468.length : Int) := of_decide_eq_true (by first | (with_reducible assumption) | assumption)
                                                  obtain ⟨ad486, e486, hx486_0⟩ := Kd.at_int (Kd.R_reads' HO_10.out).2.2 x14_4 p486 q486
                                                  obtain rfl : ad484 = ad486 := (by injection e486)
                                                  replace p486 := eq_true p486
                                                  replace q486 := eq_true q486
                                                  have p487 : 0 ≤ ((rd t468 x14_4) : Int) := of_decide_eq_true (by first | (with_reducible assumption) | assumption)
                                                  have q487 : (rd t468 x14_4) < ((rd_Lstr l0 (ji80)).length : Int) := of_decide_eq_true (by first | (with_reducible assumption) | assumption)
                                                  obtain ⟨ad487, e487, hx487_0⟩ := Kd.at_string HR483_0.out (rd t468 x14_4) p487 q487
                                                  cases e487
                                                  replace hx487_0 := (HB.out.cell (World.block_lt_of_cell? w _ hx487_0)).trans hx487_0
                                                  replace p487 := eq_true p487
                                                  replace q487 := eq_true q487
                                                  have p488 : 0 ≤ ((ji90) : Int) := of_decide_eq_true (by first | (with_reducible assumption) | assumption)
                                                  have q488 : (ji90) < (l0.length : Int) := of_decide_eq_true (by first | (with_reducible assumption) | assumption)
                                                  obtain ⟨ad488, A488_0, c488_0, e488, hx488_0, hl488_0, hi488_0⟩ := at_Lstr HR0.out (ji90) p488 q488
                                                  obtain rfl : ad483 = ad488 := (by injection e488)
                                                  replace hx488_0 := (HB.out.cell (World.block_lt_of_cell? w _ hx488_0)).trans hx488_0
                                                  have HR488_0 := Aside0.mk hi488_0
                                                  have HC488_0 := Aside0.mk hl488_0
                                                  clear hi488_0 hl488_0
                                                  replace p488 := eq_true p488
                                                  replace q488 := eq_true q488
                                                  have p489 : 0 ≤ (a1 : Int) := of_decide_eq_true (by first | (with_reducible assumption) | assumption)
                                                  have q489 : a1 < ((rd_Lstr l0 (ji90)).length : Int) := of_decide_eq_true (by first | (with_reducible assumption) | assumption)
                                                  obtain ⟨ad489, e489, hx489_0⟩ := Kd.at_string HR488_0.out a1 p489 q489
                                                  cases e489
                                                  replace hx489_0 := (HB.out.cell (World.block_lt_of_cell? w _ hx489_0)).trans hx489_0
                                                  replace p489 := eq_true p489
                                                  replace q489 := eq_true q489
                                                  go_wp2
                                                  repeat (go_quiet (fail); try go_wp2)
                                                  go_roundg k4
                                                  case measure => have := HJ4.out; have := HJ23.out; have := HJ50.out; have := HK4.out; omega
                                                  case rel => exact ⟨(wrap64 (x14_4 + 1)), (by first | rfl | (simp; done) | (simp [*]; done)), H', ⟨by have := HJ4.out; have := HJ23.out; have := HJ50.out; have := HK4.out; omega⟩, ⟨by (with_reducible repeat (first | apply Kd.R_alloc | apply Kd.R_drewN | apply Kd.R_drew)); exact HO_10.out⟩, ⟨by (with_reducible repeat (first | apply Kd.R_alloc | apply Kd.R_drewN | apply Kd.R_drew)); exact HO_12.out⟩, ⟨by repeat (first | (with_reducible first | exact HB.out | apply below_alloc | apply pw_below_drewN | apply below_drew1) | exact HB.out)⟩⟩
                                                · rw [if_neg c95] at H
                                                  have c95b0 : ((rdOf ByteArray.empty (rd_Lstr l0 (ji80)) (rd t468 x14_4)).toList == (rdOf ByteArray.empty (rd_Lstr l0 (ji90)) a1).toList) = false := beq_eq_false_iff_ne.mpr c95
                                                  have c95b1 : ((rdOf ByteArray.empty (rd_Lstr l0 (ji80)) (rd t468 x14_4)).toList != (rdOf ByteArray.empty (rd_Lstr l0 (ji90)) a1).toList) = true := bne_iff_ne.mpr c95
                                                  obtain rfl := Option.some.inj H
                                                  obtain ⟨Ao97, co97, eo97⟩ := Kd.R_slice HO_10.out
                                                  subst eo97
                                                  have p483 : 0 ≤ ((ji80) : Int) := of_decide_eq_true (by first | (with_reducible assumption) | assumption)
                                                  have q483 : (ji80) < (l0.length : Int) := of_decide_eq_true (by first | (with_reducible assumption) | assumption)
                                                  obtain ⟨ad483, A483_0, c483_0, e483, hx483_0, hl483_0, hi483_0⟩ := at_Lstr HR0.out (ji80) p483 q483
                                                  cases e483
                                                  replace hx483_0 := (HB.out.cell (World.block_lt_of_cell? w _ hx483_0)).trans hx483_0
                                                  have HR483_0 := Aside0.mk hi483_0
                                                  have HC483_0 := Aside0.mk hl483_0
                                                  clear hi483_0 hl483_0
                                                  replace p483 := eq_true p483
                                                  replace q483 := eq_true q483
                                                  have p484 : 0 ≤ (x14_4 : Int) := of_decide_eq_true (by first | (with_reducible assumption) | assumption)
                                                  have q484 : x14_4 < (t468.length : Int) := of_decide_eq_true (by first | (with_reducible assumption) | assumption)
                                                  obtain ⟨ad484, e484, hx484_0⟩ := Kd.at_int (Kd.R_reads' HO_10.out).2.2 x14_4 p484 q484
                                                  cases e484
                                                  replace p484 := eq_true p484
                                                  replace q484 := eq_true q484
                                                  have p485 : 0 ≤ (x14_4 : Int) := of_decide_eq_true (by first | (with_reducible assumption) | assumption)
                                                  have q485 : x14_4 < (t468.length : Int) := of_decide_eq_true (by first | (with_reducible assumption) | assumption)
                                                  obtain ⟨ad485, e485, hx485_0⟩ := Kd.at_int (Kd.R_reads' HO_10.out).2.2 x14_4 p485 q485
                                                  obtain rfl : ad484 = ad485 := (by injection e485)
                                                  replace p485 := eq_true p485
                                                  replace q485 := eq_true q485
                                                  have p486 : 0 ≤ (x14_4 : Int) := of_decide_eq_true (by first | (with_reducible assumption) | assumption)
                                                  have q486 : x14_4 < (t468.length : Int) := of_decide_eq_true (by first | (with_reducible assumption) | assumption)
                                                  obtain ⟨ad486, e486, hx486_0⟩ := Kd.at_int (Kd.R_reads' HO_10.out).2.2 x14_4 p486 q486
                                                  obtain rfl : ad484 = ad486 := (by injection e486)
                                                  replace p486 := eq_true p486
                                                  replace q486 := eq_true q486
                                                  have p487 : 0 ≤ ((rd t468 x14_4) : Int) := of_decide_eq_true (by first | (with_reducible assumption) | assumption)
                                                  have q487 : (rd t468 x14_4) < ((rd_Lstr l0 (ji80)).length : Int) := of_decide_eq_true (by first | (with_reducible assumption) | assumption)
                                                  obtain ⟨ad487, e487, hx487_0⟩ := Kd.at_string HR483_0.out (rd t468 x14_4) p487 q487
                                                  cases e487
                                                  replace hx487_0 := (HB.out.cell (World.block_lt_of_cell? w _ hx487_0)).trans hx487_0
                                                  replace p487 := eq_true p487
                                                  replace q487 := eq_true q487
                                                  have p488 : 0 ≤ ((ji90) : Int) := of_decide_eq_true (by first | (with_reducible assumption) | assumption)
                                                  have q488 : (ji90) < (l0.length : Int) := of_decide_eq_true (by first | (with_reducible assumption) | assumption)
                                                  obtain ⟨ad488, A488_0, c488_0, e488, hx488_0, hl488_0, hi488_0⟩ := at_Lstr HR0.out (ji90) p488 q488
                                                  obtain rfl : ad483 = ad488 := (by injection e488)
                                                  replace hx488_0 := (HB.out.cell (World.block_lt_of_cell? w _ hx488_0)).trans hx488_0
                                                  have HR488_0 := Aside0.mk hi488_0
                                                  have HC488_0 := Aside0.mk hl488_0
                                                  clear hi488_0 hl488_0
                                                  replace p488 := eq_true p488
                                                  replace q488 := eq_true q488
                                                  have p489 : 0 ≤ (a1 : Int) := of_decide_eq_true (by first | (with_reducible assumption) | assumption)
                                                  have q489 : a1 < ((rd_Lstr l0 (ji90)).length : Int) := of_decide_eq_true (by first | (with_reducible assumption) | assumption)
                                                  obtain ⟨ad489, e489, hx489_0⟩ := Kd.at_string HR488_0.out a1 p489 q489
                                                  cases e489
                                                  replace hx489_0 := (HB.out.cell (World.block_lt_of_cell? w _ hx489_0)).trans hx489_0
                                                  replace p489 := eq_true p489
                                                  replace q489 := eq_true q489
                                                  go_wp2
                                                  repeat (go_quiet (fail); try go_wp2)
                                                  go_ret
                                                  exact ⟨by first | rfl | (simp [errW_none, errW_some] <;> rfl) | (simp only [← hji80, ← hji90]; first | rfl | (simp [errW_none, errW_some] <;> rfl)) | (simp [*, errW_none, errW_some] <;> rfl), by repeat (first | (with_reducible first | exact HB.out | apply below_alloc | apply pw_below_drewN | apply below_drew1) | exact HB.out)⟩
                                              · rw [if_neg c94] at H
                                                exact absurd H (by simp)
                                            · rw [if_neg c93] at H
                                              exact absurd H (by simp)
                                          · rw [if_neg c92] at H
                                            exact absurd H (by simp)
                                        · rw [if_neg c91] at H
                                          exact absurd H (by simp)
                                      · rw [if_neg c89] at H
                                        exact absurd H (by simp)
                                    · rw [if_neg c88] at H
                                      exact absurd H (by simp)
                              · rw [if_neg c83] at H
                                exact absurd H (by simp)
                            · rw [if_neg c82] at H
                              exact absurd H (by simp)
                          · rw [if_neg c81] at H
                            exact absurd H (by simp)
                        · rw [if_neg c79] at H
                          have c79b0 : decide (x14_4 < (t468.length : Int)) = false := decide_eq_false c79
                          clear c79
                          have H' := Aside0.mk H
                          clear H
                          obtain ⟨Ao98, co98, eo98⟩ := Kd.R_slice HO_10.out
                          subst eo98
                          go_wp2
                          repeat (go_quiet (fail); try go_wp2)
                          go_loopg [16] k4 (fun kq v16 w' => ∃ (x16_5 : Int), v16 = .int .i64 x16_5 ∧ Aside0 (sidinglaw23_BlameTraces.l1 kq t461 t468 t472 x16_5 = some r) ∧ Aside0 (kq ≤ k4) ∧ Aside0 (Kd.R (Kd.int .i64) 3 w' w.heap.size (fun k_ => some k_ ≠ (v474 : Value).ownBlock) (.slice Ao98 t468.length co98) t468) ∧ Aside0 (Kd.R (Kd.int .i64) 3 w' w.heap.size (fun k_ => some k_ ≠ ((.slice Ao98 t468.length co98) : Value).ownBlock) v474 t472) ∧ Aside0 (Below w.heap.size w w'))
                          case atStart => exact ⟨(1), (by first | rfl | (simp; done) | (simp [*]; done)), H', ⟨Nat.le_refl _⟩, ⟨by (with_reducible repeat (first | apply Kd.R_alloc | apply Kd.R_drewN | apply Kd.R_drew)); exact HO_10.out⟩, ⟨by (with_reducible repeat (first | apply Kd.R_alloc | apply Kd.R_drewN | apply Kd.R_drew)); exact HO_12.out⟩, ⟨by repeat (first | (with_reducible first | exact HB.out | apply below_alloc | apply pw_below_drewN | apply below_drew1) | exact HB.out)⟩⟩
                          case round => as_aux_lemma =>
                            clear H'
                            try clear c1
                            try clear c2
                            try clear p2
                            try clear c3
                            try clear c4
                            try clear p4
                            try clear q4
                            try clear hx4
                            try clear qi4
                            try clear c5
                            try clear c6
                            try clear p6
                            try clear c7
                            try clear c8
                            try clear c9
                            try clear c9b0
                            try clear c11
                            try clear c11b0
                            try clear c14
                            try clear c14b0
                            try clear c15
                            try clear c15b0
                            try clear c16
                            try clear c16b0
                            try clear c20
                            try clear c28
                            try clear c28b0
                            try clear c28b1
                            try clear c29
                            try clear c29b0
                            try clear c29b1
                            try clear c30
                            try clear c30b0
                            try clear c30b1
                            try clear c32
                            try clear c32b0
                            try clear c33
                            try clear c33b0
                            try clear c34
                            try clear c34b0
                            try clear c34b1
                            try clear c34b2
                            try clear c35
                            try clear c35b0
                            try clear c35b1
                            try clear c35b2
                            try clear c38
                            try clear c38b0
                            try clear c38b1
                            try clear c38b2
                            try clear c42
                            try clear c42b0
                            try clear c42b1
                            try clear c46
                            try clear p46
                            try clear q46
                            try clear hx46
                            try clear c47
                            try clear p47
                            try clear q47
                            try clear hx47
                            try clear qi47
                            try clear c48
                            try clear p48
                            try clear q48
                            try clear hx48
                            try clear qi48
                            try clear c50
                            try clear c52
                            try clear c52b0
                            try clear c53
                            try clear c53b0
                            try clear c54
                            try clear c54b0
                            try clear c54b1
                            try clear c55
                            try clear c55b0
                            try clear c58
                            try clear c58b0
                            try clear c59
                            try clear c59b0
                            try clear c60
                            try clear c60b0
                            try clear c60b1
                            try clear c61
                            try clear c61b0
                            try clear p64
                            try clear c66
                            try clear c66b0
                            try clear c67
                            try clear c67b0
                            try clear c68
                            try clear c68b0
                            try clear c68b1
                            try clear c70
                            try clear c70b0
                            try clear c71
                            try clear c71b0
                            try clear c78
                            try clear c79
                            try clear c79b0
                            try clear c81
                            try clear c81b0
                            try clear c82
                            try clear c82b0
                            try clear c83
                            try clear c83b0
                            try clear c84
                            try clear c84b0
                            try clear c86
                            try clear c86b0
                            try clear c88
                            try clear c88b0
                            try clear c89
                            try clear c89b0
                            try clear c91
                            try clear c91b0
                            try clear c92
                            try clear c92b0
                            try clear c93
                            try clear c93b0
                            try clear c94
                            try clear c94b0
                            try clear c95
                            try clear c95b0
                            try clear c95b1
                            try clear hx463_0
                            try clear hx476_0
                            try clear hx477_0
                            try clear hx477_1
                            try clear hx478_0
                            try clear hx479_0
                            try clear hx479_1
                            try clear hx480_0
                            try clear hx481_0
                            try clear hx482_0
                            try clear hx483_0
                            try clear hx484_0
                            try clear hx485_0
                            try clear hx486_0
                            try clear hx487_0
                            try clear hx488_0
                            try clear hx489_0
                            try clear p2
                            try clear p4
                            try clear p46
                            try clear p463
                            try clear p47
                            try clear p476
                            try clear p477
                            try clear p478
                            try clear p479
                            try clear p48
                            try clear p480
                            try clear p481
                            try clear p482
                            try clear p483
                            try clear p484
                            try clear p485
                            try clear p486
                            try clear p487
                            try clear p488
                            try clear p489
                            try clear p6
                            try clear p64
                            try clear q4
                            try clear q46
                            try clear q463
                            try clear q47
                            try clear q476
                            try clear q477
                            try clear q478
                            try clear q479
                            try clear q48
                            try clear q480
                            try clear q481
                            try clear q482
                            try clear q483
                            try clear q484
                            try clear q485
                            try clear q486
                            try clear q487
                            try clear q488
                            try clear q489
                            obtain ⟨x16_5, rfl, HA, HK5, HO_10, HO_12, HB⟩ := hrel
                            cases gk with
                            | zero => exact absurd HA.out (by simp [sidinglaw23_BlameTraces.l1])
                            | succ k5 =>
                              have H := HA.out
                              clear HA
                              simp only [sidinglaw23_BlameTraces.l1] at H
                              have HC99 := Aside0.mk H
                              clear H
                              go_upto_region 18 with (fail)
                              repeat (go_quiet (fail); go_upto_region 18 with (fail))
                              go_cut [217] (fun v217 wc => ∃ (kq : Nat) (x217_98 : Bool), v217 = .bool x217_98 ∧ Aside0 (sidinglaw23_BlameTraces.j5 kq t461 t468 t472 x16_5 x217_98 = some r) ∧ Aside0 (kq ≤ k5) ∧ Aside0 (Kd.R (Kd.int .i64) 3 wc w.heap.size (fun k_ => some k_ ≠ (v474 : Value).ownBlock) (.slice Ao98 t468.length co98) t468) ∧ Aside0 (Kd.R (Kd.int .i64) 3 wc w.heap.size (fun k_ => some k_ ≠ ((.slice Ao98 t468.length co98) : Value).ownBlock) v474 t472) ∧ Aside0 (Below w.heap.size w wc))
                              case first => as_aux_lemma =>
                                have H := HC99.out
                                clear HC99
                                by_cases c100 : x16_5 ≤ (t468.length : Int)
                                · rw [if_pos c100] at H
                                  have c100b0 : decide (x16_5 ≤ (t468.length : Int)) = true := decide_eq_true c100
                                  clear c100
                                  (first | rw [c100b0] | (simp only [i64_w, i32_w]; rw [c100b0]) | skip)
                                  have H' := Aside0.mk H
                                  clear H
                                  obtain ⟨Ao101, co101, eo101⟩ := Kd.R_slice HO_12.out
                                  subst eo101
                                  go_wp2
                                  repeat (go_quiet (fail); try go_wp2)
                                  go_meet
                                  case rel => exact ⟨_, (decide (x16_5 ≤ (t472.length : Int))), (by first | rfl | (simp; done) | (simp [*]; done)), H', ⟨by have := HJ4.out; have := HJ23.out; have := HJ50.out; have := HK4.out; have := HK5.out; first | omega | exact Nat.le_refl _⟩, ⟨by (with_reducible repeat (first | apply Kd.R_alloc | apply Kd.R_drewN | apply Kd.R_drew)); exact HO_10.out⟩, ⟨by (with_reducible repeat (first | apply Kd.R_alloc | apply Kd.R_drewN | apply Kd.R_drew)); exact HO_12.out⟩, ⟨by repeat (first | (with_reducible first | exact HB.out | apply below_alloc | apply pw_below_drewN | apply below_drew1) | exact HB.out)⟩⟩
                                · rw [if_neg c100] at H
                                  have c100b0 : decide (x16_5 ≤ (t468.length : Int)) = false := decide_eq_false c100
                                  clear c100
                                  (first | rw [c100b0] | (simp only [i64_w, i32_w]; rw [c100b0]) | skip)
                                  have H' := Aside0.mk H
                                  clear H
                                  go_wp2
                                  repeat (go_quiet (fail); try go_wp2)
                                  go_meet
                                  case rel => exact ⟨_, (false), (by first | rfl | (simp; done) | (simp [*]; done)), H', ⟨by have := HJ4.out; have := HJ23.out; have := HJ50.out; have := HK4.out; have := HK5.out; first | omega | exact Nat.le_refl _⟩, ⟨by (with_reducible repeat (first | apply Kd.R_alloc | apply Kd.R_drewN | apply Kd.R_drew)); exact HO_10.out⟩, ⟨by (with_reducible repeat (first | apply Kd.R_alloc | apply Kd.R_drewN | apply Kd.R_drew)); exact HO_12.out⟩, ⟨by repeat (first | (with_reducible first | exact HB.out | apply below_alloc | apply pw_below_drewN | apply below_drew1) | exact HB.out)⟩⟩
                              case rest => as_aux_lemma =>
                                clear HC99
                                try clear c1
                                try clear c2
                                try clear p2
                                try clear c3
                                try clear c4
                                try clear p4
                                try clear q4
                                try clear hx4
                                try clear qi4
                                try clear c5
                                try clear c6
                                try clear p6
                                try clear c7
                                try clear c8
                                try clear c9
                                try clear c9b0
                                try clear c10
                                try clear c11
                                try clear c11b0
                                try clear c14
                                try clear c14b0
                                try clear c15
                                try clear c15b0
                                try clear c16
                                try clear c16b0
                                try clear c20
                                try clear c28
                                try clear c28b0
                                try clear c28b1
                                try clear c29
                                try clear c29b0
                                try clear c29b1
                                try clear c30
                                try clear c30b0
                                try clear c30b1
                                try clear c32
                                try clear c32b0
                                try clear c33
                                try clear c33b0
                                try clear c34
                                try clear c34b0
                                try clear c34b1
                                try clear c34b2
                                try clear c35
                                try clear c35b0
                                try clear c35b1
                                try clear c35b2
                                try clear c38
                                try clear c38b0
                                try clear c38b1
                                try clear c38b2
                                try clear c42
                                try clear c42b0
                                try clear c42b1
                                try clear c46
                                try clear p46
                                try clear q46
                                try clear hx46
                                try clear c47
                                try clear p47
                                try clear q47
                                try clear hx47
                                try clear qi47
                                try clear c48
                                try clear p48
                                try clear q48
                                try clear hx48
                                try clear qi48
                                try clear c50
                                try clear c52
                                try clear c52b0
                                try clear c53
                                try clear c53b0
                                try clear c54
                                try clear c54b0
                                try clear c54b1
                                try clear c55
                                try clear c55b0
                                try clear c58
                                try clear c58b0
                                try clear c59
                                try clear c59b0
                                try clear c60
                                try clear c60b0
                                try clear c60b1
                                try clear c61
                                try clear c61b0
                                try clear p64
                                try clear c66
                                try clear c66b0
                                try clear c67
                                try clear c67b0
                                try clear c68
                                try clear c68b0
                                try clear c68b1
                                try clear c70
                                try clear c70b0
                                try clear c71
                                try clear c71b0
                                try clear c78
                                try clear c79
                                try clear c79b0
                                try clear c81
                                try clear c81b0
                                try clear c82
                                try clear c82b0
                                try clear c83
                                try clear c83b0
                                try clear c84
                                try clear c84b0
                                try clear c86
                                try clear c86b0
                                try clear c88
                                try clear c88b0
                                try clear c89
                                try clear c89b0
                                try clear c91
                                try clear c91b0
                                try clear c92
                                try clear c92b0
                                try clear c93
                                try clear c93b0
                                try clear c94
                                try clear c94b0
                                try clear c95
                                try clear c95b0
                                try clear c95b1
                                try clear c100
                                try clear c100b0
                                try clear hx463_0
                                try clear hx476_0
                                try clear hx477_0
                                try clear hx477_1
                                try clear hx478_0
                                try clear hx479_0
                                try clear hx479_1
                                try clear hx480_0
                                try clear hx481_0
                                try clear hx482_0
                                try clear hx483_0
                                try clear hx484_0
                                try clear hx485_0
                                try clear hx486_0
                                try clear hx487_0
                                try clear hx488_0
                                try clear hx489_0
                                try clear p2
                                try clear p4
                                try clear p46
                                try clear p463
                                try clear p47
                                try clear p476
                                try clear p477
                                try clear p478
                                try clear p479
                                try clear p48
                                try clear p480
                                try clear p481
                                try clear p482
                                try clear p483
                                try clear p484
                                try clear p485
                                try clear p486
                                try clear p487
                                try clear p488
                                try clear p489
                                try clear p6
                                try clear p64
                                try clear q4
                                try clear q46
                                try clear q463
                                try clear q47
                                try clear q476
                                try clear q477
                                try clear q478
                                try clear q479
                                try clear q48
                                try clear q480
                                try clear q481
                                try clear q482
                                try clear q483
                                try clear q484
                                try clear q485
                                try clear q486
                                try clear q487
                                try clear q488
                                try clear q489
                                obtain ⟨kq, x217_98, rfl, HA, HJ98, HO_10, HO_12, HB⟩ := hcut
                                cases kq with
                                | zero => exact absurd HA.out (by simp [sidinglaw23_BlameTraces.j5])
                                | succ kj98 =>
                                  have H := HA.out
                                  clear HA
                                  simp only [sidinglaw23_BlameTraces.j5] at H
                                  by_cases c102 : x217_98 = true
                                  · subst c102
                                    have H1 : (if 0 ≤ (wrap64 ((t468.length : Int) - x16_5)) then (if (wrap64 ((t468.length : Int) - x16_5)) < (t468.length : Int) then (if 0 ≤ (wrap64 ((t472.length : Int) - x16_5)) then (if (wrap64 ((t472.length : Int) - x16_5)) < (t472.length : Int) then (if (rd t468 (wrap64 ((t468.length : Int) - x16_5))) ≥ (rd t472 (wrap64 ((t472.length : Int) - x16_5))) then (some false) else (sidinglaw23_BlameTraces.l1 kj98 t461 t468 t472 (wrap64 (x16_5 + 1)))) else (none)) else (none)) else (none)) else (none)) = some r := by rw [if_pos rfl] at H; exact H
                                    clear H
                                    have H := H1
                                    clear H1
                                    obtain ⟨ji103, hji103⟩ : ∃ j_ : Int, (wrap64 ((t468.length : Int) - x16_5)) = j_ := ⟨_, rfl⟩
                                    replace H : (if 0 ≤ (ji103) then (if (ji103) < (t468.length : Int) then (if 0 ≤ (wrap64 ((t472.length : Int) - x16_5)) then (if (wrap64 ((t472.length : Int) - x16_5)) < (t472.length : Int) then (if (rd t468 (ji103)) ≥ (rd t472 (wrap64 ((t472.length : Int) - x16_5))) then (some false) else (sidinglaw23_BlameTraces.l1 kj98 t461 t468 t472 (wrap64 (x16_5 + 1)))) else (none)) else (none)) else (none)) else (none)) = some r := by first | (rw [hji103] at H; exact H) | (simp only [hji103] at H ⊢; exact H)
                                    have hji103w : (IntKind.i64.wrap ((t468.length : Int) - x16_5)) = ji103 := (i64_w _).trans hji103
                                    by_cases c104 : 0 ≤ (ji103)
                                    · rw [if_pos c104] at H
                                      have c104b0 : decide (0 ≤ (ji103)) = true := decide_eq_true c104
                                      clear c104
                                      by_cases c105 : (ji103) < (t468.length : Int)
                                      · rw [if_pos c105] at H
                                        have c105b0 : decide ((ji103) < (t468.length : Int)) = true := decide_eq_true c105
                                        clear c105
                                        obtain ⟨ji106, hji106⟩ : ∃ j_ : Int, (wrap64 ((t472.length : Int) - x16_5)) = j_ := ⟨_, rfl⟩
                                        replace H : (if 0 ≤ (ji106) then (if (ji106) < (t472.length : Int) then (if (rd t468 (ji103)) ≥ (rd t472 (ji106)) then (some false) else (sidinglaw23_BlameTraces.l1 kj98 t461 t468 t472 (wrap64 (x16_5 + 1)))) else (none)) else (none)) = some r := by first | (rw [hji106] at H; exact H) | (simp only [hji106] at H ⊢; exact H)
                                        have hji106w : (IntKind.i64.wrap ((t472.length : Int) - x16_5)) = ji106 := (i64_w _).trans hji106
                                        by_cases c107 : 0 ≤ (ji106)
                                        · rw [if_pos c107] at H
                                          have c107b0 : decide (0 ≤ (ji106)) = true := decide_eq_true c107
                                          clear c107
                                          by_cases c108 : (ji106) < (t472.length : Int)
                                          · rw [if_pos c108] at H
                                            have c108b0 : decide ((ji106) < (t472.length : Int)) = true := decide_eq_true c108
                                            clear c108
                                            by_cases c109 : (rd t468 (ji103)) ≥ (rd t472 (ji106))
                                            · rw [if_pos c109] at H
                                              have c109b0 : decide ((rd t472 (ji106)) ≤ (rd t468 (ji103))) = true := decide_eq_true c109
                                              clear c109
                                              obtain rfl := Option.some.inj H
                                              have p490 : 0 ≤ ((ji103) : Int) := of_decide_eq_true (by first | (with_reducible assumption) | assumption)
                                              have q490 : (ji103) < (t468.length : Int) := of_decide_eq_true (by first | (with_reducible assumption) | assumption)
                                              obtain ⟨ad490, e490, hx490_0⟩ := Kd.at_int (Kd.R_reads' HO_10.out).2.2 (ji103) p490 q490
                                              cases e490
                                              replace p490 := eq_true p490
                                              replace q490 := eq_true q490
                                              obtain ⟨Ao110, co110, eo110⟩ := Kd.R_slice HO_12.out
                                              subst eo110
                                              have p491 : 0 ≤ ((ji106) : Int) := of_decide_eq_true (by first | (with_reducible assumption) | assumption)
                                              have q491 : (ji106) < (t472.length : Int) := of_decide_eq_true (by first | (with_reducible assumption) | assumption)
                                              obtain ⟨ad491, e491, hx491_0⟩ := Kd.at_int (Kd.R_reads' HO_12.out).2.2 (ji106) p491 q491
                                              cases e491
                                              replace p491 := eq_true p491
                                              replace q491 := eq_true q491
                                              go_wp2
                                              repeat (go_quiet (fail); try go_wp2)
                                              go_ret
                                              exact ⟨by first | rfl | (simp [errW_none, errW_some] <;> rfl) | (simp only [← hji103, ← hji106]; first | rfl | (simp [errW_none, errW_some] <;> rfl)) | (simp [*, errW_none, errW_some] <;> rfl), by repeat (first | (with_reducible first | exact HB.out | apply below_alloc | apply pw_below_drewN | apply below_drew1) | exact HB.out)⟩
                                            · rw [if_neg c109] at H
                                              have c109b0 : decide ((rd t472 (ji106)) ≤ (rd t468 (ji103))) = false := decide_eq_false c109
                                              clear c109
                                              have H' := Aside0.mk H
                                              clear H
                                              have p490 : 0 ≤ ((ji103) : Int) := of_decide_eq_true (by first | (with_reducible assumption) | assumption)
                                              have q490 : (ji103) < (t468.length : Int) := of_decide_eq_true (by first | (with_reducible assumption) | assumption)
                                              obtain ⟨ad490, e490, hx490_0⟩ := Kd.at_int (Kd.R_reads' HO_10.out).2.2 (ji103) p490 q490
                                              cases e490
                                              replace p490 := eq_true p490
                                              replace q490 := eq_true q490
                                              obtain ⟨Ao111, co111, eo111⟩ := Kd.R_slice HO_12.out
                                              subst eo111
                                              have p491 : 0 ≤ ((ji106) : Int) := of_decide_eq_true (by first | (with_reducible assumption) | assumption)
                                              have q491 : (ji106) < (t472.length : Int) := of_decide_eq_true (by first | (with_reducible assumption) | assumption)
                                              obtain ⟨ad491, e491, hx491_0⟩ := Kd.at_int (Kd.R_reads' HO_12.out).2.2 (ji106) p491 q491
                                              cases e491
                                              replace p491 := eq_true p491
                                              replace q491 := eq_true q491
                                              go_wp2
                                              repeat (go_quiet (fail); try go_wp2)
                                              go_roundg kj98
                                              case measure => have := HJ4.out; have := HJ23.out; have := HJ50.out; have := HK4.out; have := HK5.out; have := HJ98.out; omega
                                              case rel => exact ⟨(wrap64 (x16_5 + 1)), (by first | rfl | (simp; done) | (simp [*]; done)), H', ⟨by have := HJ4.out; have := HJ23.out; have := HJ50.out; have := HK4.out; have := HK5.out; have := HJ98.out; omega⟩, ⟨by (with_reducible repeat (first | apply Kd.R_alloc | apply Kd.R_drewN | apply Kd.R_drew)); exact HO_10.out⟩, ⟨by (with_reducible repeat (first | apply Kd.R_alloc | apply Kd.R_drewN | apply Kd.R_drew)); exact HO_12.out⟩, ⟨by repeat (first | (with_reducible first | exact HB.out | apply below_alloc | apply pw_below_drewN | apply below_drew1) | exact HB.out)⟩⟩
                                          · rw [if_neg c108] at H
                                            exact absurd H (by simp)
                                        · rw [if_neg c107] at H
                                          exact absurd H (by simp)
                                      · rw [if_neg c105] at H
                                        exact absurd H (by simp)
                                    · rw [if_neg c104] at H
                                      exact absurd H (by simp)
                                  · replace c102 := Bool.eq_false_iff.mpr c102
                                    subst c102
                                    have H1 : (some t461) = some r := by rw [if_neg (show ¬ (false = true) by decide)] at H; exact H
                                    clear H
                                    have H := H1
                                    clear H1
                                    obtain rfl := Option.some.inj H
                                    go_wp2
                                    repeat (go_quiet (fail); try go_wp2)
                                    go_ret
                                    exact ⟨by first | rfl | (simp [errW_none, errW_some] <;> rfl) | (simp [*, errW_none, errW_some] <;> rfl), by repeat (first | (with_reducible first | exact HB.out | apply below_alloc | apply pw_below_drewN | apply below_drew1) | exact HB.out)⟩
def sidinglaw23_BlameTraces.Pure : Prop := ∀ (l0 : List (List ByteArray)) (a1 : Int) (a2 : Int), (l0.length * 24 ≤ 140737488351232 ∧ ∀ x0_ ∈ l0, x0_.length * 16 ≤ 140737488351232 ∧ ∀ x1_ ∈ x0_, x1_.size ≤ 140737488351232) → ((Lit.int .i64 a1).wf = true) → ((Lit.int .i64 a2).wf = true) → ∃ k, sidinglaw23_BlameTraces.f k l0 a1 a2 = some true
theorem sidinglaw23_BlameTraces.walk (P : sidinglaw23_BlameTraces.Pure) (A0 : Option Addr) (c0 : Nat) (l0 : List (List ByteArray)) (a1 : Int) (a2 : Int) (w : World) (hr0 : Kd.C (Kd.slice 9 Kd.string) w A0 l0.length l0) (hc0 : l0.length ≤ c0) (hw0 : l0.length * 24 ≤ 140737488351232 ∧ ∀ x0_ ∈ l0, x0_.length * 16 ≤ 140737488351232 ∧ ∀ x1_ ∈ x0_, x1_.size ≤ 140737488351232) (hw1 : (Lit.int .i64 a1).wf = true) (hw2 : (Lit.int .i64 a2).wf = true) :
    Calls Try.prog 6 #[.slice A0 l0.length c0, .int .i64 a1, .int .i64 a2] w fun e w' => e = .returned (.bool true) ∧ Below w.heap.size w w' := by
  obtain ⟨k, h⟩ := P l0 a1 a2 hw0 hw1 hw2
  refine (sidinglaw23_BlameTraces.calls k A0 c0 l0 a1 a2 true w hr0 hc0 h).mono ?_
  rintro e w' ⟨rfl, hd⟩
  exact ⟨rfl, hd⟩

end Go.Proofs.Ytaifdgfegloafaa.Pr
