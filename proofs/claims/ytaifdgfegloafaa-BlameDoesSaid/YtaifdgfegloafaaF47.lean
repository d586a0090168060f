-- Written by wip/tools/myprint.py of this project (a walk of the program's text by program).
import Derived.Test.YtaifdgfegloafaaK
namespace Go.Proofs.Ytaifdgfegloafaa.Pr
open Go.RowKit Go.Proofs.YtaifdgfegloafaaW.PrintWords Go.Proofs.YtaifdgfegloafaaW.PrintLast Go.Proofs.YtaifdgfegloafaaW.PrintMore
attribute [local go_sem] max2_int min2_int max_two min_two max_three min_three max_four min_four   -- for this text's walks alone
set_option linter.unusedVariables false
set_option linter.unusedSimpArgs false

/-! ### sidingref14_Before: function 47 -/
mutual
def sidingref14_Before.l0 : Nat → List (S58) → List (S58) → Int → Option (Bool)
  | 0, _, _, _ => none
  | k + 1, x0, x1, x5 => if x5 < (x0.length : Int) then (sidingref14_Before.j1 k x0 x1 x5 (decide (x5 < (x1.length : Int)))) else (sidingref14_Before.j1 k x0 x1 x5 false)
def sidingref14_Before.j1 : Nat → List (S58) → List (S58) → Int → Bool → Option (Bool)
  | 0, _, _, _, _ => none
  | k + 1, x0, x1, x5, x15 => if x15 = true then (if 0 ≤ x5 then (if x5 < (x0.length : Int) then (if x5 < (x1.length : Int) then (if ((rd_T58 x0 x5).f0) = ((rd_T58 x1 x5).f0) then (if ((rd_T58 x0 x5).f1) = ((rd_T58 x1 x5).f1) then (sidingref14_Before.l0 k x0 x1 (wrap64 (x5 + 1))) else (some (decide (((rd_T58 x0 x5).f1) < ((rd_T58 x1 x5).f1))))) else (some (decide (((rd_T58 x0 x5).f0) < ((rd_T58 x1 x5).f0))))) else (none)) else (none)) else (none)) else (some false)
end
def sidingref14_Before.f (k : Nat) (l0 : List (S58)) (l1 : List (S58)) : Option (Bool) := sidingref14_Before.l0 k l0 l1 0
theorem sidingref14_Before.mono_l : ∀ k, (∀ y0 y1 y2, LeO (sidingref14_Before.l0 k y0 y1 y2) (sidingref14_Before.l0 (k + 1) y0 y1 y2)) ∧ (∀ y0 y1 y2 y3, LeO (sidingref14_Before.j1 k y0 y1 y2 y3) (sidingref14_Before.j1 (k + 1) y0 y1 y2 y3))
  | 0 => ⟨fun _ _ _ r h => by simp [sidingref14_Before.l0] at h, fun _ _ _ _ r h => by simp [sidingref14_Before.j1] at h⟩
  | k + 1 => by
    obtain ⟨ih0, ih1⟩ := sidingref14_Before.mono_l k
    refine ⟨?_, ?_⟩
    · intro y0 y1 y2
      unfold sidingref14_Before.l0
      repeat' first
      | (with_reducible exact ih0 _ _ _)
      | (with_reducible exact ih1 _ _ _ _)
      | (with_reducible exact LeO.refl _)
      | (with_reducible exact LeO.none _)
      | (with_reducible refine LeO.ite ?_ ?_)
      | (with_reducible refine LeO.bind ?_ (fun _ => ?_))
      | exact ih0 _ _ _
      | exact ih1 _ _ _ _
      | exact LeO.none _
      | refine LeO.ite ?_ ?_
      | refine LeO.bind ?_ (fun _ => ?_)
    · intro y0 y1 y2 y3
      unfold sidingref14_Before.j1
      repeat' first
      | (with_reducible exact ih0 _ _ _)
      | (with_reducible exact ih1 _ _ _ _)
      | (with_reducible exact LeO.refl _)
      | (with_reducible exact LeO.none _)
      | (with_reducible refine LeO.ite ?_ ?_)
      | (with_reducible refine LeO.bind ?_ (fun _ => ?_))
      | exact ih0 _ _ _
      | exact ih1 _ _ _ _
      | exact LeO.none _
      | refine LeO.ite ?_ ?_
      | refine LeO.bind ?_ (fun _ => ?_)
theorem sidingref14_Before.mono : ∀ a0 a1 k, LeO (sidingref14_Before.f k a0 a1) (sidingref14_Before.f (k + 1) a0 a1) := by
  intro a0 a1 k
  obtain ⟨ih0, ih1⟩ := sidingref14_Before.mono_l k
  unfold sidingref14_Before.f
  repeat' first
      | (with_reducible exact ih0 _ _ _)
      | (with_reducible exact ih1 _ _ _ _)
      | (with_reducible exact LeO.refl _)
      | (with_reducible exact LeO.none _)
      | (with_reducible refine LeO.ite ?_ ?_)
      | (with_reducible refine LeO.bind ?_ (fun _ => ?_))
      | exact ih0 _ _ _
      | exact ih1 _ _ _ _
      | exact LeO.none _
      | refine LeO.ite ?_ ?_
      | refine LeO.bind ?_ (fun _ => ?_)
set_option maxHeartbeats 8000000 in
set_option maxRecDepth 100000 in
theorem sidingref14_Before.calls (k : Nat) (A0 : Option Addr) (c0 : Nat) (l0 : List (S58)) (A1 : Option Addr) (c1 : Nat) (l1 : List (S58)) (r : Bool) (w : World) (hr0 : Kd.C k58 w A0 l0.length l0) (hc0 : l0.length ≤ c0) (hr1 : Kd.C k58 w A1 l1.length l1) (hc1 : l1.length ≤ c1) (h : sidingref14_Before.f k l0 l1 = some r) :
    Calls Try.prog 47 #[.slice A0 l0.length c0, .slice A1 l1.length c1] w fun e w' => e = .returned (.bool r) ∧ Drawn0 w w' := by
  have HR0 := Aside0.mk hr0
  have HC0 := Aside0.mk hc0
  clear hr0 hc0
  have HR1 := Aside0.mk hr1
  have HC1 := Aside0.mk hc1
  clear hr1 hc1
  have H : (sidingref14_Before.l0 k l0 l1 0) = some r := h
  clear h
  have H' := Aside0.mk H
  clear H
  go_enter Try.func47, Try.ntmps47
  go_wp2
  repeat (go_quiet (fail); try go_wp2)
  go_loopg [5] k (fun kq v5 w' => ∃ (x5_1 : Int), v5 = .int .i64 x5_1 ∧ Aside0 (sidingref14_Before.l0 kq l0 l1 x5_1 = some r) ∧ Aside0 (kq ≤ k) ∧ Drawn0 w w')
  case atStart => exact ⟨(0), (by first | rfl | (simp; done) | (simp [*]; done)), H', ⟨Nat.le_refl _⟩, by repeat (first | exact Drawn0.refl _ | apply Drawn0.step)⟩
  case round =>
    clear H'
    try clear c1
    try clear p2
    obtain ⟨x5_1, rfl, HA, HK1, ⟨m1, rfl⟩⟩ := hrel
    cases gk with
    | zero => exact absurd HA.out (by simp [sidingref14_Before.l0])
    | succ k1 =>
      have H := HA.out
      clear HA
      simp only [sidingref14_Before.l0] at H
      have HC3 := Aside0.mk H
      clear H
      go_upto_region 2 with (fail)
      repeat (go_quiet (fail); go_upto_region 2 with (fail))
      go_cut [15] (fun v15 wc => ∃ (kq : Nat) (x15_2 : Bool), v15 = .bool x15_2 ∧ Aside0 (sidingref14_Before.j1 kq l0 l1 x5_1 x15_2 = some r) ∧ Aside0 (kq ≤ k1) ∧ Drawn0 w wc)
      case first =>
        have H := HC3.out
        clear HC3
        by_cases c4 : x5_1 < (l0.length : Int)
        · rw [if_pos c4] at H
          have c4b0 : decide (x5_1 < (l0.length : Int)) = true := decide_eq_true c4
          clear c4
          (first | rw [c4b0] | (simp only [i64_w, i32_w]; rw [c4b0]) | skip)
          have H' := Aside0.mk H
          clear H
          go_wp2
          repeat (go_quiet (fail); try go_wp2)
          go_meet
          case rel => exact ⟨_, (decide (x5_1 < (l1.length : Int))), (by first | rfl | (simp; done) | (simp [*]; done)), H', ⟨by have := HK1.out; first | omega | exact Nat.le_refl _⟩, by repeat (first | exact Drawn0.refl _ | apply Drawn0.step)⟩
        · rw [if_neg c4] at H
          have c4b0 : decide (x5_1 < (l0.length : Int)) = false := decide_eq_false c4
          clear c4
          (first | rw [c4b0] | (simp only [i64_w, i32_w]; rw [c4b0]) | skip)
          have H' := Aside0.mk H
          clear H
          go_wp2
          repeat (go_quiet (fail); try go_wp2)
          go_meet
          case rel => exact ⟨_, (false), (by first | rfl | (simp; done) | (simp [*]; done)), H', ⟨by have := HK1.out; first | omega | exact Nat.le_refl _⟩, by repeat (first | exact Drawn0.refl _ | apply Drawn0.step)⟩
      case rest =>
        clear HC3
        try clear c1
        try clear p2
        try clear c4
        try clear c4b0
        try clear p2
        obtain ⟨kq, x15_2, rfl, HA, HJ2, ⟨mc2, rfl⟩⟩ := hcut
        cases kq with
        | zero => exact absurd HA.out (by simp [sidingref14_Before.j1])
        | succ kj2 =>
          have H := HA.out
          clear HA
          simp only [sidingref14_Before.j1] at H
          by_cases c5 : x15_2 = true
          · subst c5
            have H1 : (if 0 ≤ x5_1 then (if x5_1 < (l0.length : Int) then (if x5_1 < (l1.length : Int) then (if ((rd_T58 l0 x5_1).f0) = ((rd_T58 l1 x5_1).f0) then (if ((rd_T58 l0 x5_1).f1) = ((rd_T58 l1 x5_1).f1) then (sidingref14_Before.l0 kj2 l0 l1 (wrap64 (x5_1 + 1))) else (some (decide (((rd_T58 l0 x5_1).f1) < ((rd_T58 l1 x5_1).f1))))) else (some (decide (((rd_T58 l0 x5_1).f0) < ((rd_T58 l1 x5_1).f0))))) else (none)) else (none)) else (none)) = some r := by rw [if_pos rfl] at H; exact H
            clear H
            have H := H1
            clear H1
            by_cases c6 : 0 ≤ x5_1
            · rw [if_pos c6] at H
              have c6b0 : decide (0 ≤ x5_1) = true := decide_eq_true c6
              clear c6
              by_cases c7 : x5_1 < (l0.length : Int)
              · rw [if_pos c7] at H
                have c7b0 : decide (x5_1 < (l0.length : Int)) = true := decide_eq_true c7
                clear c7
                by_cases c8 : x5_1 < (l1.length : Int)
                · rw [if_pos c8] at H
                  have c8b0 : decide (x5_1 < (l1.length : Int)) = true := decide_eq_true c8
                  clear c8
                  by_cases c9 : ((rd_T58 l0 x5_1).f0) = ((rd_T58 l1 x5_1).f0)
                  · rw [if_pos c9] at H
                    have c9b0 : (((rd_T58 l0 x5_1).f0) == ((rd_T58 l1 x5_1).f0)) = true := beq_iff_eq.mpr c9
                    have c9b1 : (((rd_T58 l0 x5_1).f0) != ((rd_T58 l1 x5_1).f0)) = false := bne_eq_false_iff_eq.mpr c9
                    clear c9
                    by_cases c10 : ((rd_T58 l0 x5_1).f1) = ((rd_T58 l1 x5_1).f1)
                    · rw [if_pos c10] at H
                      have c10b0 : (((rd_T58 l0 x5_1).f1) == ((rd_T58 l1 x5_1).f1)) = true := beq_iff_eq.mpr c10
                      have c10b1 : (((rd_T58 l0 x5_1).f1) != ((rd_T58 l1 x5_1).f1)) = false := bne_eq_false_iff_eq.mpr c10
                      clear c10
                      have H' := Aside0.mk H
                      clear H
                      have p515 : 0 ≤ (x5_1 : Int) := of_decide_eq_true (by first | (with_reducible assumption) | assumption)
                      have q515 : x5_1 < (l0.length : Int) := of_decide_eq_true (by first | (with_reducible assumption) | assumption)
                      obtain ⟨ad515, e515, hx515_0, hx515_1⟩ := at_T58 HR0.out x5_1 p515 q515
                      cases e515
                      replace p515 := eq_true p515
                      replace q515 := eq_true q515
                      have p516 : 0 ≤ (x5_1 : Int) := of_decide_eq_true (by first | (with_reducible assumption) | assumption)
                      have q516 : x5_1 < (l1.length : Int) := of_decide_eq_true (by first | (with_reducible assumption) | assumption)
                      obtain ⟨ad516, e516, hx516_0, hx516_1⟩ := at_T58 HR1.out x5_1 p516 q516
                      cases e516
                      replace p516 := eq_true p516
                      replace q516 := eq_true q516
                      have p517 : 0 ≤ (x5_1 : Int) := of_decide_eq_true (by first | (with_reducible assumption) | assumption)
                      have q517 : x5_1 < (l0.length : Int) := of_decide_eq_true (by first | (with_reducible assumption) | assumption)
                      obtain ⟨ad517, e517, hx517_0, hx517_1⟩ := at_T58 HR0.out x5_1 p517 q517
                      obtain rfl : ad515 = ad517 := (by injection e517)
                      replace p517 := eq_true p517
                      replace q517 := eq_true q517
                      have p518 : 0 ≤ (x5_1 : Int) := of_decide_eq_true (by first | (with_reducible assumption) | assumption)
                      have q518 : x5_1 < (l1.length : Int) := of_decide_eq_true (by first | (with_reducible assumption) | assumption)
                      obtain ⟨ad518, e518, hx518_0, hx518_1⟩ := at_T58 HR1.out x5_1 p518 q518
                      obtain rfl : ad516 = ad518 := (by injection e518)
                      replace p518 := eq_true p518
                      replace q518 := eq_true q518
                      go_wp2
                      repeat (go_quiet (fail); try go_wp2)
                      go_roundg kj2
                      case measure => have := HK1.out; have := HJ2.out; omega
                      case rel => exact ⟨(wrap64 (x5_1 + 1)), (by first | rfl | (simp; done) | (simp [*]; done)), H', ⟨by have := HK1.out; have := HJ2.out; omega⟩, by repeat (first | exact Drawn0.refl _ | apply Drawn0.step)⟩
                    · rw [if_neg c10] at H
                      have c10b0 : (((rd_T58 l0 x5_1).f1) == ((rd_T58 l1 x5_1).f1)) = false := beq_eq_false_iff_ne.mpr c10
                      have c10b1 : (((rd_T58 l0 x5_1).f1) != ((rd_T58 l1 x5_1).f1)) = true := bne_iff_ne.mpr c10
                      obtain rfl := Option.some.inj H
                      have p515 : 0 ≤ (x5_1 : Int) := of_decide_eq_true (by first | (with_reducible assumption) | assumption)
                      have q515 : x5_1 < (l0.length : Int) := of_decide_eq_true (by first | (with_reducible assumption) | assumption)
                      obtain ⟨ad515, e515, hx515_0, hx515_1⟩ := at_T58 HR0.out x5_1 p515 q515
                      cases e515
                      replace p515 := eq_true p515
                      replace q515 := eq_true q515
                      have p516 : 0 ≤ (x5_1 : Int) := of_decide_eq_true (by first | (with_reducible assumption) | assumption)
                      have q516 : x5_1 < (l1.length : Int) := of_decide_eq_true (by first | (with_reducible assumption) | assumption)
                      obtain ⟨ad516, e516, hx516_0, hx516_1⟩ := at_T58 HR1.out x5_1 p516 q516
                      cases e516
                      replace p516 := eq_true p516
                      replace q516 := eq_true q516
                      have p517 : 0 ≤ (x5_1 : Int) := of_decide_eq_true (by first | (with_reducible assumption) | assumption)
                      have q517 : x5_1 < (l0.length : Int) := of_decide_eq_true (by first | (with_reducible assumption) | assumption)
                      obtain ⟨ad517, e517, hx517_0, hx517_1⟩ := at_T58 HR0.out x5_1 p517 q517
                      obtain rfl : ad515 = ad517 := (by injection e517)
                      replace p517 := eq_true p517
                      replace q517 := eq_true q517
                      have p518 : 0 ≤ (x5_1 : Int) := of_decide_eq_true (by first | (with_reducible assumption) | assumption)
                      have q518 : x5_1 < (l1.length : Int) := of_decide_eq_true (by first | (with_reducible assumption) | assumption)
                      obtain ⟨ad518, e518, hx518_0, hx518_1⟩ := at_T58 HR1.out x5_1 p518 q518
                      obtain rfl : ad516 = ad518 := (by injection e518)
                      replace p518 := eq_true p518
                      replace q518 := eq_true q518
                      have p519 : 0 ≤ (x5_1 : Int) := of_decide_eq_true (by first | (with_reducible assumption) | assumption)
                      have q519 : x5_1 < (l0.length : Int) := of_decide_eq_true (by first | (with_reducible assumption) | assumption)
                      obtain ⟨ad519, e519, hx519_0, hx519_1⟩ := at_T58 HR0.out x5_1 p519 q519
                      obtain rfl : ad515 = ad519 := (by injection e519)
                      replace p519 := eq_true p519
                      replace q519 := eq_true q519
                      have p520 : 0 ≤ (x5_1 : Int) := of_decide_eq_true (by first | (with_reducible assumption) | assumption)
                      have q520 : x5_1 < (l1.length : Int) := of_decide_eq_true (by first | (with_reducible assumption) | assumption)
                      obtain ⟨ad520, e520, hx520_0, hx520_1⟩ := at_T58 HR1.out x5_1 p520 q520
                      obtain rfl : ad516 = ad520 := (by injection e520)
                      replace p520 := eq_true p520
                      replace q520 := eq_true q520
                      go_wp2
                      repeat (go_quiet (fail); try go_wp2)
                      go_ret
                      exact ⟨by first | rfl | (simp; done) | (simp [*]; done), by repeat (first | exact Drawn0.refl _ | apply Drawn0.step)⟩
                  · rw [if_neg c9] at H
                    have c9b0 : (((rd_T58 l0 x5_1).f0) == ((rd_T58 l1 x5_1).f0)) = false := beq_eq_false_iff_ne.mpr c9
                    have c9b1 : (((rd_T58 l0 x5_1).f0) != ((rd_T58 l1 x5_1).f0)) = true := bne_iff_ne.mpr c9
                    obtain rfl := Option.some.inj H
                    have p515 : 0 ≤ (x5_1 : Int) := of_decide_eq_true (by first | (with_reducible assumption) | assumption)
                    have q515 : x5_1 < (l0.length : Int) := of_decide_eq_true (by first | (with_reducible assumption) | assumption)
                    obtain ⟨ad515, e515, hx515_0, hx515_1⟩ := at_T58 HR0.out x5_1 p515 q515
                    cases e515
                    replace p515 := eq_true p515
                    replace q515 := eq_true q515
                    have p516 : 0 ≤ (x5_1 : Int) := of_decide_eq_true (by first | (with_reducible assumption) | assumption)
                    have q516 : x5_1 < (l1.length : Int) := of_decide_eq_true (by first | (with_reducible assumption) | assumption)
                    obtain ⟨ad516, e516, hx516_0, hx516_1⟩ := at_T58 HR1.out x5_1 p516 q516
                    cases e516
                    replace p516 := eq_true p516
                    replace q516 := eq_true q516
                    have p521 : 0 ≤ (x5_1 : Int) := of_decide_eq_true (by first | (with_reducible assumption) | assumption)
                    have q521 : x5_1 < (l0.length : Int) := of_decide_eq_true (by first | (with_reducible assumption) | assumption)
                    obtain ⟨ad521, e521, hx521_0, hx521_1⟩ := at_T58 HR0.out x5_1 p521 q521
                    obtain rfl : ad515 = ad521 := (by injection e521)
                    replace p521 := eq_true p521
                    replace q521 := eq_true q521
                    have p522 : 0 ≤ (x5_1 : Int) := of_decide_eq_true (by first | (with_reducible assumption) | assumption)
                    have q522 : x5_1 < (l1.length : Int) := of_decide_eq_true (by first | (with_reducible assumption) | assumption)
                    obtain ⟨ad522, e522, hx522_0, hx522_1⟩ := at_T58 HR1.out x5_1 p522 q522
                    obtain rfl : ad516 = ad522 := (by injection e522)
                    replace p522 := eq_true p522
                    replace q522 := eq_true q522
                    go_wp2
                    repeat (go_quiet (fail); try go_wp2)
                    go_ret
                    exact ⟨by first | rfl | (simp; done) | (simp [*]; done), by repeat (first | exact Drawn0.refl _ | apply Drawn0.step)⟩
                · rw [if_neg c8] at H
                  exact absurd H (by simp)
              · rw [if_neg c7] at H
                exact absurd H (by simp)
            · rw [if_neg c6] at H
              exact absurd H (by simp)
          · replace c5 := Bool.eq_false_iff.mpr c5
            subst c5
            have H1 : (some false) = some r := by rw [if_neg (show ¬ (false = true) by decide)] at H; exact H
            clear H
            have H := H1
            clear H1
            obtain rfl := Option.some.inj H
            go_wp2
            repeat (go_quiet (fail); try go_wp2)
            go_ret
            exact ⟨by first | rfl | (simp; done) | (simp [*]; done), by repeat (first | exact Drawn0.refl _ | apply Drawn0.step)⟩

end Go.Proofs.Ytaifdgfegloafaa.Pr
