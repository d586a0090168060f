-- Written by wip/tools/myprint.py of this project (a walk of the program's text by program).
import Derived.Test.YtiledjckdnkjgaaDoorK
import Derived.Test.YtiledjckdnkjgaaDoorAlive13
import Derived.Test.YtiledjckdnkjgaaDoorF10
import Derived.Test.YtiledjckdnkjgaaDoorF12
import Derived.Test.YtiledjckdnkjgaaDoorF14
import Derived.Test.YtiledjckdnkjgaaDoorF19
import Derived.Test.YtiledjckdnkjgaaDoorF20
import Derived.Test.YtiledjckdnkjgaaDoorF9
import Derived.Test.YtiledjckdnkjgaaDoorJoin
namespace Go.Proofs.YtiledjckdnkjgaaDoor.Pr
open Go.RowKit Go.Proofs.YtiledjckdnkjgaaDoorW.PrintWords Go.Proofs.YtiledjckdnkjgaaDoorW.PrintLast Go.Proofs.YtiledjckdnkjgaaDoorW.PrintMore
attribute [local go_sem] max2_int min2_int max_two min_two max_three min_three max_four min_four   -- for this text's walks alone
set_option linter.unusedVariables false
set_option linter.unusedSimpArgs false

/-! ### sidinglaw13_LinesBack: function 7 -/
mutual
def sidinglaw13_LinesBack.j0 : Nat → List Int → List ByteArray → Bool → Bool → Option (Bool)
  | 0, _, _, _, _ => none
  | k + 1, x0, x1, x5, x27 => if x27 = true then (some x5) else ((lines_Split.f x0).bind fun bt430 => (if bt430.2 = 0 then (sidinglaw13_LinesBack.l0 k x0 x1 x5 bt430.1 0 0) else (if bt430.2 = 4 then ((sidingref13_Check.f k x0).bind fun t440 => (if t440 = 0 then (some false) else (sidinglaw13_LinesBack.j2 k x1 x5))) else (some false))))
def sidinglaw13_LinesBack.j2 : Nat → List ByteArray → Bool → Option (Bool)
  | 0, _, _ => none
  | k + 1, x1, x5 => (sidingref13_Lines.f k x1).bind fun t441 => (if t441 = 0 then ((lines_Join.f x1).bind fun bt442 => ((lines_Split.f bt442.1).bind fun bt446 => (if x5 = true then (if bt442.2 = 0 then (if bt446.2 = 0 then ((sidingref13_Same.f k bt446.1 x1).bind fun t450 => (some t450)) else (some false)) else (some false)) else (some false)))) else (some x5))
def sidinglaw13_LinesBack.l0 : Nat → List Int → List ByteArray → Bool → List ByteArray → Int → Int → Option (Bool)
  | 0, _, _, _, _, _, _ => none
  | k + 1, x0, x1, x5, x6, x8, x9 => if x9 < (x0.length : Int) then (if 0 ≤ x9 then (if (rd x0 x9) = 10 then (sidinglaw13_LinesBack.l0 k x0 x1 x5 x6 (wrap64 (x8 + 1)) (wrap64 (x9 + 1))) else (sidinglaw13_LinesBack.l0 k x0 x1 x5 x6 x8 (wrap64 (x9 + 1)))) else (none)) else ((lines_Join.f x6).bind fun bt435 => (if bt435.2 = 0 then ((sidingref13_SameBytes.f bt435.1 x0).bind fun t439 => (if t439 = true then (if (x6.length : Int) = (wrap64 (x8 + 1)) then (if (x6.length : Int) > 60 then (some false) else (sidinglaw13_LinesBack.j2 k x1 x5)) else (some false)) else (some false))) else (some false)))
end
def sidinglaw13_LinesBack.f (k : Nat) (l0 : List Int) (l1 : List ByteArray) : Option (Bool) := (law13_alive.f).bind fun t428 => (if (l0.length : Int) > 5000 then (sidinglaw13_LinesBack.j0 k l0 l1 t428 true) else ((sidingref13_Long.f k l1).bind fun t429 => (if t429 = true then (sidinglaw13_LinesBack.j0 k l0 l1 t428 true) else (sidinglaw13_LinesBack.j0 k l0 l1 t428 (!t428)))))
theorem sidinglaw13_LinesBack.mono_l : ∀ k, (∀ y0 y1 y2 y3, LeO (sidinglaw13_LinesBack.j0 k y0 y1 y2 y3) (sidinglaw13_LinesBack.j0 (k + 1) y0 y1 y2 y3)) ∧ (∀ y0 y1, LeO (sidinglaw13_LinesBack.j2 k y0 y1) (sidinglaw13_LinesBack.j2 (k + 1) y0 y1)) ∧ (∀ y0 y1 y2 y3 y4 y5, LeO (sidinglaw13_LinesBack.l0 k y0 y1 y2 y3 y4 y5) (sidinglaw13_LinesBack.l0 (k + 1) y0 y1 y2 y3 y4 y5))
  | 0 => ⟨fun _ _ _ _ r h => by simp [sidinglaw13_LinesBack.j0] at h, fun _ _ r h => by simp [sidinglaw13_LinesBack.j2] at h, fun _ _ _ _ _ _ r h => by simp [sidinglaw13_LinesBack.l0] at h⟩
  | k + 1 => by
    obtain ⟨ih0, ih1, ih2⟩ := sidinglaw13_LinesBack.mono_l k
    refine ⟨?_, ?_, ?_⟩
    · intro y0 y1 y2 y3
      unfold sidinglaw13_LinesBack.j0
      repeat' first
      | (with_reducible exact ih0 _ _ _ _)
      | (with_reducible exact ih1 _ _)
      | (with_reducible exact ih2 _ _ _ _ _ _)
      | (with_reducible exact sidingref13_Check.mono _ _)
      | (with_reducible exact sidingref13_Lines.mono _ _)
      | (with_reducible exact sidingref13_Long.mono _ _)
      | (with_reducible exact sidingref13_Same.mono _ _ _)
      | (with_reducible exact LeO.refl _)
      | (with_reducible exact LeO.none _)
      | (with_reducible refine LeO.ite ?_ ?_)
      | (with_reducible refine LeO.bind ?_ (fun _ => ?_))
      | exact ih0 _ _ _ _
      | exact ih1 _ _
      | exact ih2 _ _ _ _ _ _
      | exact sidingref13_Check.mono _ _
      | exact sidingref13_Lines.mono _ _
      | exact sidingref13_Long.mono _ _
      | exact sidingref13_Same.mono _ _ _
      | exact LeO.none _
      | refine LeO.ite ?_ ?_
      | refine LeO.bind ?_ (fun _ => ?_)
    · intro y0 y1
      unfold sidinglaw13_LinesBack.j2
      repeat' first
      | (with_reducible exact ih0 _ _ _ _)
      | (with_reducible exact ih1 _ _)
      | (with_reducible exact ih2 _ _ _ _ _ _)
      | (with_reducible exact sidingref13_Check.mono _ _)
      | (with_reducible exact sidingref13_Lines.mono _ _)
      | (with_reducible exact sidingref13_Long.mono _ _)
      | (with_reducible exact sidingref13_Same.mono _ _ _)
      | (with_reducible exact LeO.refl _)
      | (with_reducible exact LeO.none _)
      | (with_reducible refine LeO.ite ?_ ?_)
      | (with_reducible refine LeO.bind ?_ (fun _ => ?_))
      | exact ih0 _ _ _ _
      | exact ih1 _ _
      | exact ih2 _ _ _ _ _ _
      | exact sidingref13_Check.mono _ _
      | exact sidingref13_Lines.mono _ _
      | exact sidingref13_Long.mono _ _
      | exact sidingref13_Same.mono _ _ _
      | exact LeO.none _
      | refine LeO.ite ?_ ?_
      | refine LeO.bind ?_ (fun _ => ?_)
    · intro y0 y1 y2 y3 y4 y5
      unfold sidinglaw13_LinesBack.l0
      repeat' first
      | (with_reducible exact ih0 _ _ _ _)
      | (with_reducible exact ih1 _ _)
      | (with_reducible exact ih2 _ _ _ _ _ _)
      | (with_reducible exact sidingref13_Check.mono _ _)
      | (with_reducible exact sidingref13_Lines.mono _ _)
      | (with_reducible exact sidingref13_Long.mono _ _)
      | (with_reducible exact sidingref13_Same.mono _ _ _)
      | (with_reducible exact LeO.refl _)
      | (with_reducible exact LeO.none _)
      | (with_reducible refine LeO.ite ?_ ?_)
      | (with_reducible refine LeO.bind ?_ (fun _ => ?_))
      | exact ih0 _ _ _ _
      | exact ih1 _ _
      | exact ih2 _ _ _ _ _ _
      | exact sidingref13_Check.mono _ _
      | exact sidingref13_Lines.mono _ _
      | exact sidingref13_Long.mono _ _
      | exact sidingref13_Same.mono _ _ _
      | exact LeO.none _
      | refine LeO.ite ?_ ?_
      | refine LeO.bind ?_ (fun _ => ?_)
theorem sidinglaw13_LinesBack.mono : ∀ a0 a1 k, LeO (sidinglaw13_LinesBack.f k a0 a1) (sidinglaw13_LinesBack.f (k + 1) a0 a1) := by
  intro a0 a1 k
  obtain ⟨ih0, ih1, ih2⟩ := sidinglaw13_LinesBack.mono_l k
  unfold sidinglaw13_LinesBack.f
  repeat' first
      | (with_reducible exact ih0 _ _ _ _)
      | (with_reducible exact ih1 _ _)
      | (with_reducible exact ih2 _ _ _ _ _ _)
      | (with_reducible exact sidingref13_Check.mono _ _)
      | (with_reducible exact sidingref13_Lines.mono _ _)
      | (with_reducible exact sidingref13_Long.mono _ _)
      | (with_reducible exact sidingref13_Same.mono _ _ _)
      | (with_reducible exact LeO.refl _)
      | (with_reducible exact LeO.none _)
      | (with_reducible refine LeO.ite ?_ ?_)
      | (with_reducible refine LeO.bind ?_ (fun _ => ?_))
      | exact ih0 _ _ _ _
      | exact ih1 _ _
      | exact ih2 _ _ _ _ _ _
      | exact sidingref13_Check.mono _ _
      | exact sidingref13_Lines.mono _ _
      | exact sidingref13_Long.mono _ _
      | exact sidingref13_Same.mono _ _ _
      | exact LeO.none _
      | refine LeO.ite ?_ ?_
      | refine LeO.bind ?_ (fun _ => ?_)
set_option maxHeartbeats 8000000 in
set_option maxRecDepth 100000 in
theorem sidinglaw13_LinesBack.calls (k : Nat) (A0 : Option Addr) (c0 : Nat) (l0 : List Int) (A1 : Option Addr) (c1 : Nat) (l1 : List ByteArray) (r : Bool) (w : World) (hr0 : Kd.C (Kd.int .u8) w A0 l0.length l0) (hc0 : l0.length ≤ c0) (hr1 : Kd.C Kd.string w A1 l1.length l1) (hc1 : l1.length ≤ c1) (h : sidinglaw13_LinesBack.f k l0 l1 = some r) (hr_ : Aside0 (r = true)) :
    Calls Tryd.prog 7 #[.slice A0 l0.length c0, .slice A1 l1.length c1] w fun e w' => e = .returned (.bool r) ∧ Below w.heap.size w w' := by
  have HR0 := Aside0.mk hr0
  have HC0 := Aside0.mk hc0
  clear hr0 hc0
  have HR1 := Aside0.mk hr1
  have HC1 := Aside0.mk hc1
  clear hr1 hc1
  have HB := Aside0.mk (Below.refl w.heap.size w)
  have H : ((law13_alive.f).bind fun t428 => (if (l0.length : Int) > 5000 then (sidinglaw13_LinesBack.j0 k l0 l1 t428 true) else ((sidingref13_Long.f k l1).bind fun t429 => (if t429 = true then (sidinglaw13_LinesBack.j0 k l0 l1 t428 true) else (sidinglaw13_LinesBack.j0 k l0 l1 t428 (!t428)))))) = some r := h
  clear h
  replace H := Option.bind_eq_some_iff.mp H
  obtain ⟨t428, A30, H⟩ := H
  replace H : (if (l0.length : Int) > 5000 then (sidinglaw13_LinesBack.j0 k l0 l1 t428 true) else ((sidingref13_Long.f k l1).bind fun t429 => (if t429 = true then (sidinglaw13_LinesBack.j0 k l0 l1 t428 true) else (sidinglaw13_LinesBack.j0 k l0 l1 t428 (!t428))))) = some r := H
  have A3 := Aside0.mk A30
  clear A30
  have HC4 := Aside0.mk H
  clear H
  go_enter Tryd.func7, Tryd.ntmps7
  go_upto_region 2 with (first | ((with_reducible refine gate_callee (f := 8) rfl ?_); refine goesL_ (some 16) rfl rfl Tryd.func8 (by kernel_rfl) rfl #[] rfl (by (try simp only [List.map_toArray, List.map_cons, List.map_nil]); first | done | rfl | (simp only [List.length_drop, List.length_take]; rfl)) ?_; (with_reducible refine (law13_alive.calls  t428 _ A3.out).mono ?_); rintro e w5 ⟨rfl, hb⟩; refine ⟨_, rfl, ?_⟩; have n0_ := Aside0.mk (below_step (by repeat (first | (with_reducible first | exact HB.out | apply below_alloc | apply pw_below_drewN | apply below_drew1) | exact HB.out)) hb); clear HB; have HB := n0_; clear n0_; (try clear hb); (try clear hb2); (try clear hk); (try clear hi)))
  (try simp only [Act.put, List.setIfInBounds_toArray, List.set_cons_zero, List.set_cons_succ])
  go_cut [27] (fun v27 wc => ∃ (kq : Nat) (x27_3 : Bool), v27 = .bool x27_3 ∧ Aside0 (sidinglaw13_LinesBack.j0 kq l0 l1 t428 x27_3 = some r) ∧ Aside0 (kq ≤ k) ∧ Aside0 (Below w.heap.size w wc))
  case first =>
    have H := HC4.out
    clear HC4
    by_cases c6 : (l0.length : Int) > 5000
    · rw [if_pos c6] at H
      have c6b0 : decide (5000 < (l0.length : Int)) = true := decide_eq_true c6
      have c6b1 : decide (5000 < l0.length) = true := decide_eq_true (by omega)
      clear c6
      (first | rw [c6b0] | (simp only [i64_w, i32_w]; rw [c6b0]) | skip)
      have H' := Aside0.mk H
      clear H
      go_wp2
      go_meet
      case rel => exact ⟨_, (true), (by first | rfl | (simp; done) | (simp [*]; done)), H', ⟨by first | omega | exact Nat.le_refl _⟩, ⟨by repeat (first | (with_reducible first | exact HB.out | apply below_alloc | apply pw_below_drewN | apply below_drew1) | exact HB.out)⟩⟩
    · rw [if_neg c6] at H
      have c6b0 : decide (5000 < (l0.length : Int)) = false := decide_eq_false c6
      have c6b1 : decide (5000 < l0.length) = false := decide_eq_false (by omega)
      clear c6
      (first | rw [c6b0] | (simp only [i64_w, i32_w]; rw [c6b0]) | skip)
      replace H := Option.bind_eq_some_iff.mp H
      obtain ⟨t429, A70, H⟩ := H
      replace H : (if t429 = true then (sidinglaw13_LinesBack.j0 k l0 l1 t428 true) else (sidinglaw13_LinesBack.j0 k l0 l1 t428 (!t428))) = some r := H
      have A7 := Aside0.mk A70
      clear A70
      by_cases c8 : t429 = true
      · subst c8
        have H1 : (sidinglaw13_LinesBack.j0 k l0 l1 t428 true) = some r := by rw [if_pos rfl] at H; exact H
        clear H
        have H := H1
        clear H1
        have H' := Aside0.mk H
        clear H
        go_wp2_with (first | (go_at_call 9; (with_reducible refine (sidingref13_Long.calls k _ _ l1 true _ ?side1 ?side2 A7.out).mono ?_); (case side1 => repeat (first | exact (Kd.C_below HR1.out HB.out) | (with_reducible refine Kd.C_alloc ?_ _) | (with_reducible refine Kd.C_drewN ?_ _) | (with_reducible refine Kd.C_drew ?_))); (case side2 => exact HC1.out); rintro e w' ⟨rfl, ⟨nd, rfl⟩⟩))
        go_meet
        case rel => exact ⟨_, (true), (by first | rfl | (simp; done) | (simp [*]; done)), H', ⟨by first | omega | exact Nat.le_refl _⟩, ⟨by repeat (first | (with_reducible first | exact HB.out | apply below_alloc | apply pw_below_drewN | apply below_drew1) | exact HB.out)⟩⟩
      · replace c8 := Bool.eq_false_iff.mpr c8
        subst c8
        have H1 : (sidinglaw13_LinesBack.j0 k l0 l1 t428 (!t428)) = some r := by rw [if_neg (show ¬ (false = true) by decide)] at H; exact H
        clear H
        have H := H1
        clear H1
        have H' := Aside0.mk H
        clear H
        go_wp2_with (first | (go_at_call 9; (with_reducible refine (sidingref13_Long.calls k _ _ l1 false _ ?side1 ?side2 A7.out).mono ?_); (case side1 => repeat (first | exact (Kd.C_below HR1.out HB.out) | (with_reducible refine Kd.C_alloc ?_ _) | (with_reducible refine Kd.C_drewN ?_ _) | (with_reducible refine Kd.C_drew ?_))); (case side2 => exact HC1.out); rintro e w' ⟨rfl, ⟨nd, rfl⟩⟩))
        go_meet
        case rel => exact ⟨_, (!t428), (by first | rfl | (simp; done) | (simp [*]; done)), H', ⟨by first | omega | exact Nat.le_refl _⟩, ⟨by repeat (first | (with_reducible first | exact HB.out | apply below_alloc | apply pw_below_drewN | apply below_drew1) | exact HB.out)⟩⟩
  case rest =>
    clear HC4
    try clear c1
    try clear p2
    try clear c6
    try clear c6b0
    try clear c6b1
    try clear c7
    try clear c8
    obtain ⟨kq, x27_3, rfl, HA, HJ3, HB⟩ := hcut
    cases kq with
    | zero => exact absurd HA.out (by simp [sidinglaw13_LinesBack.j0])
    | succ kj3 =>
      have H := HA.out
      clear HA
      simp only [sidinglaw13_LinesBack.j0] at H
      by_cases c9 : x27_3 = true
      · subst c9
        have H1 : (some t428) = some r := by rw [if_pos rfl] at H; exact H
        clear H
        have H := H1
        clear H1
        obtain rfl := Option.some.inj H
        go_wp2
        go_ret
        exact ⟨by first | rfl | (simp [errW_none, errW_some] <;> rfl) | (simp [*, errW_none, errW_some] <;> rfl), by repeat (first | (with_reducible first | exact HB.out | apply below_alloc | apply pw_below_drewN | apply below_drew1) | exact HB.out)⟩
      · replace c9 := Bool.eq_false_iff.mpr c9
        subst c9
        have H1 : ((lines_Split.f l0).bind fun bt430 => (if bt430.2 = 0 then (sidinglaw13_LinesBack.l0 kj3 l0 l1 t428 bt430.1 0 0) else (if bt430.2 = 4 then ((sidingref13_Check.f kj3 l0).bind fun t440 => (if t440 = 0 then (some false) else (sidinglaw13_LinesBack.j2 kj3 l1 t428))) else (some false)))) = some r := by rw [if_neg (show ¬ (false = true) by decide)] at H; exact H
        clear H
        have H := H1
        clear H1
        replace H := Option.bind_eq_some_iff.mp H
        obtain ⟨⟨t430, t431⟩, A100, H⟩ := H
        replace H : (if t431 = 0 then (sidinglaw13_LinesBack.l0 kj3 l0 l1 t428 t430 0 0) else (if t431 = 4 then ((sidingref13_Check.f kj3 l0).bind fun t440 => (if t440 = 0 then (some false) else (sidinglaw13_LinesBack.j2 kj3 l1 t428))) else (some false))) = some r := H
        have A10 := Aside0.mk A100
        clear A100
        have HC11 := Aside0.mk H
        clear H
        go_upto_if 35 with (first | ((with_reducible refine gate_callee (f := 14) rfl ?_); refine goesL_ (some 31) rfl rfl Tryd.func14 (by kernel_rfl) rfl #[.slice A0 l0.length c0] rfl (by (try simp only [List.map_toArray, List.map_cons, List.map_nil]); first | done | rfl | (simp only [List.length_drop, List.length_take]; rfl)) ?_; (with_reducible refine (lines_Split.calls _ _ l0 t430 t431 _ ?side1 ?side2 A10.out).mono ?_); (case side1 => repeat (first | exact (Kd.C_below HR0.out HB.out) | (with_reducible refine Kd.C_alloc ?_ _) | (with_reducible refine Kd.C_drewN ?_ _) | (with_reducible refine Kd.C_drew ?_))); (case side2 => exact HC0.out); rintro e w12 ⟨v432, rfl, ho0, hb⟩; refine ⟨_, rfl, ?_⟩; have n0_ := Aside0.mk (Kd.R_lower ho0 (below_size (by repeat (first | (with_reducible first | exact HB.out | apply below_alloc | apply pw_below_drewN | apply below_drew1) | exact HB.out)))); have n1_ := Aside0.mk (below_step (by repeat (first | (with_reducible first | exact HB.out | apply below_alloc | apply pw_below_drewN | apply below_drew1) | exact HB.out)) hb); clear HB; have HO433 := n0_; have HB := n1_; clear n0_ n1_; (try clear hb); (try clear hb2); (try clear hk); (try clear hi); (try clear ho0)))
        (try simp only [Act.put, List.setIfInBounds_toArray, List.set_cons_zero, List.set_cons_succ])
        go_cut [] (fun wc => ∃ (kq : Nat), Aside0 (sidinglaw13_LinesBack.j2 kq l1 t428 = some r) ∧ Aside0 (kq ≤ kj3) ∧ Aside0 (Below w.heap.size w wc))
        case first =>
          have H := HC11.out
          clear HC11
          by_cases c13 : t431 = 0
          · rw [if_pos c13] at H
            have c13b0 : (t431 == 0) = true := beq_iff_eq.mpr c13
            have c13b1 : (t431 != 0) = false := bne_eq_false_iff_eq.mpr c13
            clear c13
            (first | rw [c13b0] | (simp only [i64_w, i32_w]; rw [c13b0]) | skip)
            have H' := Aside0.mk H
            clear H
            go_wp2
            go_loopg [8, 9] kj3 (fun kq v8 v9 w' => ∃ (x8_2 : Int) (x9_2 : Int), v8 = .int .i64 x8_2 ∧ v9 = .int .i64 x9_2 ∧ Aside0 (sidinglaw13_LinesBack.l0 kq l0 l1 t428 t430 x8_2 x9_2 = some r) ∧ Aside0 (kq ≤ kj3) ∧ Aside0 (Kd.R Kd.string 9 w' w.heap.size (fun _ => True) v432 t430) ∧ Aside0 (Below w.heap.size w w'))
            case atStart => exact ⟨(0), (0), (by first | rfl | (simp; done) | (simp [*]; done)), (by first | rfl | (simp; done) | (simp [*]; done)), H', ⟨Nat.le_refl _⟩, ⟨by (with_reducible repeat (first | apply Kd.R_alloc | apply Kd.R_drewN | apply Kd.R_drew)); exact HO433.out⟩, ⟨by repeat (first | (with_reducible first | exact HB.out | apply below_alloc | apply pw_below_drewN | apply below_drew1) | exact HB.out)⟩⟩
            case round =>
              clear H'
              try clear c1
              try clear p2
              try clear c6
              try clear c6b0
              try clear c6b1
              try clear c7
              try clear c8
              try clear c9
              try clear c13
              try clear c13b0
              try clear c13b1
              try clear p2
              obtain ⟨x8_2, x9_2, rfl, rfl, HA, HK2, HO_6, HB⟩ := hrel
              cases gk with
              | zero => exact absurd HA.out (by simp [sidinglaw13_LinesBack.l0])
              | succ k2 =>
                have H := HA.out
                clear HA
                simp only [sidinglaw13_LinesBack.l0] at H
                by_cases c14 : x9_2 < (l0.length : Int)
                · rw [if_pos c14] at H
                  have c14b0 : decide (x9_2 < (l0.length : Int)) = true := decide_eq_true c14
                  clear c14
                  by_cases c15 : 0 ≤ x9_2
                  · rw [if_pos c15] at H
                    have c15b0 : decide (0 ≤ x9_2) = true := decide_eq_true c15
                    clear c15
                    by_cases c16 : (rd l0 x9_2) = 10
                    · rw [if_pos c16] at H
                      have c16b0 : ((rd l0 x9_2) == 10) = true := beq_iff_eq.mpr c16
                      have c16b1 : ((rd l0 x9_2) != 10) = false := bne_eq_false_iff_eq.mpr c16
                      clear c16
                      have H' := Aside0.mk H
                      clear H
                      have p434 : 0 ≤ (x9_2 : Int) := of_decide_eq_true (by first | (with_reducible assumption) | assumption)
                      have q434 : x9_2 < (l0.length : Int) := of_decide_eq_true (by first | (with_reducible assumption) | assumption)
                      obtain ⟨ad434, e434, hx434_0⟩ := Kd.at_int HR0.out x9_2 p434 q434
                      cases e434
                      replace hx434_0 := (HB.out.cell (World.block_lt_of_cell? w _ hx434_0)).trans hx434_0
                      replace p434 := eq_true p434
                      replace q434 := eq_true q434
                      go_wp2
                      go_roundg k2
                      case measure => have := HJ3.out; have := HK2.out; omega
                      case rel => exact ⟨(wrap64 (x8_2 + 1)), (wrap64 (x9_2 + 1)), (by first | rfl | (simp; done) | (simp [*]; done)), (by first | rfl | (simp; done) | (simp [*]; done)), H', ⟨by have := HJ3.out; have := HK2.out; omega⟩, ⟨by (with_reducible repeat (first | apply Kd.R_alloc | apply Kd.R_drewN | apply Kd.R_drew)); exact HO_6.out⟩, ⟨by repeat (first | (with_reducible first | exact HB.out | apply below_alloc | apply pw_below_drewN | apply below_drew1) | exact HB.out)⟩⟩
                    · rw [if_neg c16] at H
                      have c16b0 : ((rd l0 x9_2) == 10) = false := beq_eq_false_iff_ne.mpr c16
                      have c16b1 : ((rd l0 x9_2) != 10) = true := bne_iff_ne.mpr c16
                      have H' := Aside0.mk H
                      clear H
                      have p434 : 0 ≤ (x9_2 : Int) := of_decide_eq_true (by first | (with_reducible assumption) | assumption)
                      have q434 : x9_2 < (l0.length : Int) := of_decide_eq_true (by first | (with_reducible assumption) | assumption)
                      obtain ⟨ad434, e434, hx434_0⟩ := Kd.at_int HR0.out x9_2 p434 q434
                      cases e434
                      replace hx434_0 := (HB.out.cell (World.block_lt_of_cell? w _ hx434_0)).trans hx434_0
                      replace p434 := eq_true p434
                      replace q434 := eq_true q434
                      go_wp2
                      go_roundg k2
                      case measure => have := HJ3.out; have := HK2.out; omega
                      case rel => exact ⟨(x8_2), (wrap64 (x9_2 + 1)), (by first | rfl | (simp; done) | (simp [*]; done)), (by first | rfl | (simp; done) | (simp [*]; done)), H', ⟨by have := HJ3.out; have := HK2.out; omega⟩, ⟨by (with_reducible repeat (first | apply Kd.R_alloc | apply Kd.R_drewN | apply Kd.R_drew)); exact HO_6.out⟩, ⟨by repeat (first | (with_reducible first | exact HB.out | apply below_alloc | apply pw_below_drewN | apply below_drew1) | exact HB.out)⟩⟩
                  · rw [if_neg c15] at H
                    exact absurd H (by simp)
                · rw [if_neg c14] at H
                  have c14b0 : decide (x9_2 < (l0.length : Int)) = false := decide_eq_false c14
                  clear c14
                  replace H := Option.bind_eq_some_iff.mp H
                  obtain ⟨⟨t435, t438⟩, A170, H⟩ := H
                  replace H : (if t438 = 0 then ((sidingref13_SameBytes.f t435 l0).bind fun t439 => (if t439 = true then (if (t430.length : Int) = (wrap64 (x8_2 + 1)) then (if (t430.length : Int) > 60 then (some false) else (sidinglaw13_LinesBack.j2 k2 l1 t428)) else (some false)) else (some false))) else (some false)) = some r := H
                  have A17 := Aside0.mk A170
                  clear A170
                  by_cases c18 : t438 = 0
                  · rw [if_pos c18] at H
                    have c18b0 : (t438 == 0) = true := beq_iff_eq.mpr c18
                    have c18b1 : (t438 != 0) = false := bne_eq_false_iff_eq.mpr c18
                    clear c18
                    replace H := Option.bind_eq_some_iff.mp H
                    obtain ⟨t439, A190, H⟩ := H
                    replace H : (if t439 = true then (if (t430.length : Int) = (wrap64 (x8_2 + 1)) then (if (t430.length : Int) > 60 then (some false) else (sidinglaw13_LinesBack.j2 k2 l1 t428)) else (some false)) else (some false)) = some r := H
                    have A19 := Aside0.mk A190
                    clear A190
                    by_cases c20 : t439 = true
                    · subst c20
                      have H1 : (if (t430.length : Int) = (wrap64 (x8_2 + 1)) then (if (t430.length : Int) > 60 then (some false) else (sidinglaw13_LinesBack.j2 k2 l1 t428)) else (some false)) = some r := by rw [if_pos rfl] at H; exact H
                      clear H
                      have H := H1
                      clear H1
                      by_cases c21 : (t430.length : Int) = (wrap64 (x8_2 + 1))
                      · rw [if_pos c21] at H
                        have c21b0 : ((t430.length : Int) == (wrap64 (x8_2 + 1))) = true := beq_iff_eq.mpr c21
                        have c21b1 : ((t430.length : Int) != (wrap64 (x8_2 + 1))) = false := bne_eq_false_iff_eq.mpr c21
                        clear c21
                        by_cases c22 : (t430.length : Int) > 60
                        · rw [if_pos c22] at H
                          have c22b0 : decide (60 < (t430.length : Int)) = true := decide_eq_true c22
                          have c22b1 : decide (60 < t430.length) = true := decide_eq_true (by omega)
                          clear c22
                          exact absurd ((Option.some.inj H).trans hr_.out) (by decide)
                        · rw [if_neg c22] at H
                          have c22b0 : decide (60 < (t430.length : Int)) = false := decide_eq_false c22
                          have c22b1 : decide (60 < t430.length) = false := decide_eq_false (by omega)
                          clear c22
                          have H' := Aside0.mk H
                          clear H
                          obtain ⟨Ao23, co23, eo23⟩ := Kd.R_slice HO_6.out
                          subst eo23
                          go_wp2_with (first | ((with_reducible refine gate_callee (f := 16) rfl ?_); refine goesL_ (some 51) rfl rfl Tryd.func16 (by kernel_rfl) rfl #[.slice Ao23 t430.length co23] rfl (by (try simp only [List.map_toArray, List.map_cons, List.map_nil]); first | done | rfl | (simp only [List.length_drop, List.length_take]; rfl)) ?_; (with_reducible refine (lines_Join.calls _ _ t430 t435 t438 _ ?side1 ?side2 A17.out).mono ?_); (case side1 => repeat (first | exact (Kd.R_reads' HO_6.out).2.2 | (with_reducible refine Kd.C_alloc ?_ _) | (with_reducible refine Kd.C_drewN ?_ _) | (with_reducible refine Kd.C_drew ?_))); (case side2 => exact (Kd.R_reads' HO_6.out).2.1); rintro e w24 ⟨v436, rfl, ho0, hb⟩; refine ⟨_, rfl, ?_⟩; have n0_ := Aside0.mk (Kd.R_below (by (with_reducible repeat (first | apply Kd.R_alloc | apply Kd.R_drewN | apply Kd.R_drew)); exact HO_6.out) hb); have n1_ := Aside0.mk (Kd.V_lower (Kd.V_mono (ok' := fun k_ => some k_ ≠ (.slice Ao23 t430.length co23 : Value).ownBlock) ho0 (fun k_ hk_ => (Kd.fresh' (Kd.R_lt (by (with_reducible repeat (first | apply Kd.R_alloc | apply Kd.R_drewN | apply Kd.R_drew)); exact HO_6.out)) k_ hk_))) (below_size (by repeat (first | (with_reducible first | exact HB.out | apply below_alloc | apply pw_below_drewN | apply below_drew1) | exact HB.out)))); have n2_ := Aside0.mk (below_step (by repeat (first | (with_reducible first | exact HB.out | apply below_alloc | apply pw_below_drewN | apply below_drew1) | exact HB.out)) hb); clear HO_6; clear HB; have HO_6 := n0_; have HO437 := n1_; have HB := n2_; clear n0_ n1_ n2_; (try clear hb); (try clear hb2); (try clear hk); (try clear hi); (try clear ho0); obtain ⟨Ao25, co25, eo25⟩ := Kd.V_slice HO437.out; subst eo25) | (go_at_call 20; (with_reducible refine (sidingref13_SameBytes.calls _ _ t435 _ _ l0 true _ ?side1 ?side2 ?side3 ?side4 A19.out).mono ?_); (case side1 => repeat (first | exact (Kd.V_reads' HO437.out).2.2 | (with_reducible refine Kd.C_alloc ?_ _) | (with_reducible refine Kd.C_drewN ?_ _) | (with_reducible refine Kd.C_drew ?_))); (case side2 => exact (Kd.V_reads' HO437.out).2.1); (case side3 => repeat (first | exact (Kd.C_below HR0.out HB.out) | (with_reducible refine Kd.C_alloc ?_ _) | (with_reducible refine Kd.C_drewN ?_ _) | (with_reducible refine Kd.C_drew ?_))); (case side4 => exact HC0.out); rintro e w' ⟨rfl, ⟨nd, rfl⟩⟩))
                          go_meet
                          case rel => exact ⟨_, H', ⟨by have := HJ3.out; have := HK2.out; first | omega | exact Nat.le_refl _⟩, ⟨by repeat (first | (with_reducible first | exact HB.out | apply below_alloc | apply pw_below_drewN | apply below_drew1) | exact HB.out)⟩⟩
                      · rw [if_neg c21] at H
                        have c21b0 : ((t430.length : Int) == (wrap64 (x8_2 + 1))) = false := beq_eq_false_iff_ne.mpr c21
                        have c21b1 : ((t430.length : Int) != (wrap64 (x8_2 + 1))) = true := bne_iff_ne.mpr c21
                        exact absurd ((Option.some.inj H).trans hr_.out) (by decide)
                    · replace c20 := Bool.eq_false_iff.mpr c20
                      subst c20
                      have H1 : (some false) = some r := by rw [if_neg (show ¬ (false = true) by decide)] at H; exact H
                      clear H
                      have H := H1
                      clear H1
                      exact absurd ((Option.some.inj H).trans hr_.out) (by decide)
                  · rw [if_neg c18] at H
                    have c18b0 : (t438 == 0) = false := beq_eq_false_iff_ne.mpr c18
                    have c18b1 : (t438 != 0) = true := bne_iff_ne.mpr c18
                    exact absurd ((Option.some.inj H).trans hr_.out) (by decide)
          · rw [if_neg c13] at H
            have c13b0 : (t431 == 0) = false := beq_eq_false_iff_ne.mpr c13
            have c13b1 : (t431 != 0) = true := bne_iff_ne.mpr c13
            (first | rw [c13b0] | (simp only [i64_w, i32_w]; rw [c13b0]) | skip)
            by_cases c26 : t431 = 4
            · rw [if_pos c26] at H
              have c26b0 : (t431 == 4) = true := beq_iff_eq.mpr c26
              have c26b1 : (t431 != 4) = false := bne_eq_false_iff_eq.mpr c26
              clear c26
              replace H := Option.bind_eq_some_iff.mp H
              obtain ⟨t440, A270, H⟩ := H
              replace H : (if t440 = 0 then (some false) else (sidinglaw13_LinesBack.j2 kj3 l1 t428)) = some r := H
              have A27 := Aside0.mk A270
              clear A270
              by_cases c28 : t440 = 0
              · rw [if_pos c28] at H
                have c28b0 : (t440 == 0) = true := beq_iff_eq.mpr c28
                have c28b1 : (t440 != 0) = false := bne_eq_false_iff_eq.mpr c28
                clear c28
                exact absurd ((Option.some.inj H).trans hr_.out) (by decide)
              · rw [if_neg c28] at H
                have c28b0 : (t440 == 0) = false := beq_eq_false_iff_ne.mpr c28
                have c28b1 : (t440 != 0) = true := bne_iff_ne.mpr c28
                have H' := Aside0.mk H
                clear H
                go_wp2_with (first | (go_at_call 19; (with_reducible refine (sidingref13_Check.calls kj3 _ _ l0 t440 _ ?side1 ?side2 A27.out).mono ?_); (case side1 => repeat (first | exact (Kd.C_below HR0.out HB.out) | (with_reducible refine Kd.C_alloc ?_ _) | (with_reducible refine Kd.C_drewN ?_ _) | (with_reducible refine Kd.C_drew ?_))); (case side2 => exact HC0.out); rintro e w29 ⟨rfl, hb⟩; have n0_ := Aside0.mk (Kd.R_below (by (with_reducible repeat (first | apply Kd.R_alloc | apply Kd.R_drewN | apply Kd.R_drew)); exact HO433.out) hb); have n1_ := Aside0.mk (below_step (by repeat (first | (with_reducible first | exact HB.out | apply below_alloc | apply pw_below_drewN | apply below_drew1) | exact HB.out)) hb); clear HO433; clear HB; have HO433 := n0_; have HB := n1_; clear n0_ n1_; (try clear hb); (try clear hb2); (try clear hk); (try clear hi)))
                go_meet
                case rel => exact ⟨_, H', ⟨by have := HJ3.out; first | omega | exact Nat.le_refl _⟩, ⟨by repeat (first | (with_reducible first | exact HB.out | apply below_alloc | apply pw_below_drewN | apply below_drew1) | exact HB.out)⟩⟩
            · rw [if_neg c26] at H
              have c26b0 : (t431 == 4) = false := beq_eq_false_iff_ne.mpr c26
              have c26b1 : (t431 != 4) = true := bne_iff_ne.mpr c26
              exact absurd ((Option.some.inj H).trans hr_.out) (by decide)
        case rest =>
          clear HC11
          try clear c1
          try clear c2
          try clear p2
          try clear p4
          try clear q4
          try clear hx4
          try clear c6
          try clear c6b0
          try clear c6b1
          try clear p6
          try clear c7
          try clear c8
          try clear c9
          try clear c13
          try clear c13b0
          try clear c13b1
          try clear c14
          try clear c14b0
          try clear c15
          try clear c15b0
          try clear c16
          try clear c16b0
          try clear c16b1
          try clear c18
          try clear c18b0
          try clear c18b1
          try clear c20
          try clear c21
          try clear c21b0
          try clear c21b1
          try clear c22
          try clear c22b0
          try clear c22b1
          try clear c26
          try clear c26b0
          try clear c26b1
          try clear c28
          try clear c28b0
          try clear c28b1
          try clear hx434_0
          try clear p2
          try clear p434
          try clear q434
          obtain ⟨kq, HA, HJ10, HB⟩ := hcut
          cases kq with
          | zero => exact absurd HA.out (by simp [sidinglaw13_LinesBack.j2])
          | succ kj10 =>
            have H := HA.out
            clear HA
            simp only [sidinglaw13_LinesBack.j2] at H
            replace H := Option.bind_eq_some_iff.mp H
            obtain ⟨t441, A300, H⟩ := H
            replace H : (if t441 = 0 then ((lines_Join.f l1).bind fun bt442 => ((lines_Split.f bt442.1).bind fun bt446 => (if t428 = true then (if bt442.2 = 0 then (if bt446.2 = 0 then ((sidingref13_Same.f kj10 bt446.1 l1).bind fun t450 => (some t450)) else (some false)) else (some false)) else (some false)))) else (some t428)) = some r := H
            have A30 := Aside0.mk A300
            clear A300
            by_cases c31 : t441 = 0
            · rw [if_pos c31] at H
              have c31b0 : (t441 == 0) = true := beq_iff_eq.mpr c31
              have c31b1 : (t441 != 0) = false := bne_eq_false_iff_eq.mpr c31
              clear c31
              replace H := Option.bind_eq_some_iff.mp H
              obtain ⟨⟨t442, t445⟩, A320, H⟩ := H
              replace H : ((lines_Split.f t442).bind fun bt446 => (if t428 = true then (if t445 = 0 then (if bt446.2 = 0 then ((sidingref13_Same.f kj10 bt446.1 l1).bind fun t450 => (some t450)) else (some false)) else (some false)) else (some false))) = some r := H
              have A32 := Aside0.mk A320
              clear A320
              replace H := Option.bind_eq_some_iff.mp H
              obtain ⟨⟨t446, t447⟩, A330, H⟩ := H
              replace H : (if t428 = true then (if t445 = 0 then (if t447 = 0 then ((sidingref13_Same.f kj10 t446 l1).bind fun t450 => (some t450)) else (some false)) else (some false)) else (some false)) = some r := H
              have A33 := Aside0.mk A330
              clear A330
              by_cases c34 : t428 = true
              · subst c34
                have H1 : (if t445 = 0 then (if t447 = 0 then ((sidingref13_Same.f kj10 t446 l1).bind fun t450 => (some t450)) else (some false)) else (some false)) = some r := by rw [if_pos rfl] at H; exact H
                clear H
                have H := H1
                clear H1
                by_cases c35 : t445 = 0
                · rw [if_pos c35] at H
                  have c35b0 : (t445 == 0) = true := beq_iff_eq.mpr c35
                  have c35b1 : (t445 != 0) = false := bne_eq_false_iff_eq.mpr c35
                  clear c35
                  by_cases c36 : t447 = 0
                  · rw [if_pos c36] at H
                    have c36b0 : (t447 == 0) = true := beq_iff_eq.mpr c36
                    have c36b1 : (t447 != 0) = false := bne_eq_false_iff_eq.mpr c36
                    clear c36
                    replace H := Option.bind_eq_some_iff.mp H
                    obtain ⟨t450, A370, H⟩ := H
                    replace H : (some t450) = some r := H
                    have A37 := Aside0.mk A370
                    clear A370
                    obtain rfl := Option.some.inj H
                    go_wp2_with (first | ((with_reducible refine gate_callee (f := 10) rfl ?_); refine goesL_ (some 82) rfl rfl Tryd.func10 (by kernel_rfl) rfl #[.slice A1 l1.length c1] rfl (by (try simp only [List.map_toArray, List.map_cons, List.map_nil]); first | done | rfl | (simp only [List.length_drop, List.length_take]; rfl)) ?_; (with_reducible refine (sidingref13_Lines.calls kj10 _ _ l1 t441 _ ?side1 ?side2 A30.out).mono ?_); (case side1 => repeat (first | exact (Kd.C_below HR1.out HB.out) | (with_reducible refine Kd.C_alloc ?_ _) | (with_reducible refine Kd.C_drewN ?_ _) | (with_reducible refine Kd.C_drew ?_))); (case side2 => exact HC1.out); rintro e w38 ⟨rfl, hb⟩; refine ⟨_, rfl, ?_⟩; have n0_ := Aside0.mk (below_step (by repeat (first | (with_reducible first | exact HB.out | apply below_alloc | apply pw_below_drewN | apply below_drew1) | exact HB.out)) hb); clear HB; have HB := n0_; clear n0_; (try clear hb); (try clear hb2); (try clear hk); (try clear hi)) | ((with_reducible refine gate_callee (f := 16) rfl ?_); refine goesL_ (some 87) rfl rfl Tryd.func16 (by kernel_rfl) rfl #[.slice A1 l1.length c1] rfl (by (try simp only [List.map_toArray, List.map_cons, List.map_nil]); first | done | rfl | (simp only [List.length_drop, List.length_take]; rfl)) ?_; (with_reducible refine (lines_Join.calls _ _ l1 t442 t445 _ ?side1 ?side2 A32.out).mono ?_); (case side1 => repeat (first | exact (Kd.C_below HR1.out HB.out) | (with_reducible refine Kd.C_alloc ?_ _) | (with_reducible refine Kd.C_drewN ?_ _) | (with_reducible refine Kd.C_drew ?_))); (case side2 => exact HC1.out); rintro e w39 ⟨v443, rfl, ho0, hb⟩; refine ⟨_, rfl, ?_⟩; have n0_ := Aside0.mk (Kd.V_lower (Kd.V_mono (ok' := fun k_ => True) ho0 (fun k_ hk_ => trivial)) (below_size (by repeat (first | (with_reducible first | exact HB.out | apply below_alloc | apply pw_below_drewN | apply below_drew1) | exact HB.out)))); have n1_ := Aside0.mk (below_step (by repeat (first | (with_reducible first | exact HB.out | apply below_alloc | apply pw_below_drewN | apply below_drew1) | exact HB.out)) hb); clear HB; have HO444 := n0_; have HB := n1_; clear n0_ n1_; (try clear hb); (try clear hb2); (try clear hk); (try clear hi); (try clear ho0); obtain ⟨Ao40, co40, eo40⟩ := Kd.V_slice HO444.out; subst eo40) | ((with_reducible refine gate_callee (f := 14) rfl ?_); refine goesL_ (some 92) rfl rfl Tryd.func14 (by kernel_rfl) rfl #[.slice Ao40 t442.length co40] rfl (by (try simp only [List.map_toArray, List.map_cons, List.map_nil]); first | done | rfl | (simp only [List.length_drop, List.length_take]; rfl)) ?_; (with_reducible refine (lines_Split.calls _ _ t442 t446 t447 _ ?side1 ?side2 A33.out).mono ?_); (case side1 => repeat (first | exact (Kd.V_reads' HO444.out).2.2 | (with_reducible refine Kd.C_alloc ?_ _) | (with_reducible refine Kd.C_drewN ?_ _) | (with_reducible refine Kd.C_drew ?_))); (case side2 => exact (Kd.V_reads' HO444.out).2.1); rintro e w41 ⟨v448, rfl, ho0, hb⟩; refine ⟨_, rfl, ?_⟩; have n0_ := Aside0.mk (Kd.V_elder' (by (with_reducible repeat (first | apply Kd.V_alloc | apply Kd.V_drewN | apply Kd.V_drew)); exact HO444.out) (Kd.R_base ho0) hb); have n1_ := Aside0.mk (Kd.R_lower ho0 (below_size (by repeat (first | (with_reducible first | exact HB.out | apply below_alloc | apply pw_below_drewN | apply below_drew1) | exact HB.out)))); have n2_ := Aside0.mk (below_step (by repeat (first | (with_reducible first | exact HB.out | apply below_alloc | apply pw_below_drewN | apply below_drew1) | exact HB.out)) hb); clear HO444; clear HB; have HO444 := n0_; have HO449 := n1_; have HB := n2_; clear n0_ n1_ n2_; (try clear hb); (try clear hb2); (try clear hk); (try clear hi); (try clear ho0); obtain ⟨Ao42, co42, eo42⟩ := Kd.R_slice HO449.out; subst eo42) | (go_at_call 12; (with_reducible refine (sidingref13_Same.calls kj10 _ _ t446 _ _ l1 t450 _ ?side1 ?side2 ?side3 ?side4 A37.out).mono ?_); (case side1 => repeat (first | exact (Kd.R_reads' HO449.out).2.2 | (with_reducible refine Kd.C_alloc ?_ _) | (with_reducible refine Kd.C_drewN ?_ _) | (with_reducible refine Kd.C_drew ?_))); (case side2 => exact (Kd.R_reads' HO449.out).2.1); (case side3 => repeat (first | exact (Kd.C_below HR1.out HB.out) | (with_reducible refine Kd.C_alloc ?_ _) | (with_reducible refine Kd.C_drewN ?_ _) | (with_reducible refine Kd.C_drew ?_))); (case side4 => exact HC1.out); rintro e w' ⟨rfl, ⟨nd, rfl⟩⟩))
                    go_ret
                    exact ⟨by first | rfl | (simp [errW_none, errW_some] <;> rfl) | (simp [*, errW_none, errW_some] <;> rfl), by repeat (first | (with_reducible first | exact HB.out | apply below_alloc | apply pw_below_drewN | apply below_drew1) | exact HB.out)⟩
                  · rw [if_neg c36] at H
                    have c36b0 : (t447 == 0) = false := beq_eq_false_iff_ne.mpr c36
                    have c36b1 : (t447 != 0) = true := bne_iff_ne.mpr c36
                    exact absurd ((Option.some.inj H).trans hr_.out) (by decide)
                · rw [if_neg c35] at H
                  have c35b0 : (t445 == 0) = false := beq_eq_false_iff_ne.mpr c35
                  have c35b1 : (t445 != 0) = true := bne_iff_ne.mpr c35
                  exact absurd ((Option.some.inj H).trans hr_.out) (by decide)
              · replace c34 := Bool.eq_false_iff.mpr c34
                subst c34
                have H1 : (some false) = some r := by rw [if_neg (show ¬ (false = true) by decide)] at H; exact H
                clear H
                have H := H1
                clear H1
                exact absurd ((Option.some.inj H).trans hr_.out) (by decide)
            · rw [if_neg c31] at H
              have c31b0 : (t441 == 0) = false := beq_eq_false_iff_ne.mpr c31
              have c31b1 : (t441 != 0) = true := bne_iff_ne.mpr c31
              obtain rfl := Option.some.inj H
              go_wp2_with (first | ((with_reducible refine gate_callee (f := 10) rfl ?_); refine goesL_ (some 82) rfl rfl Tryd.func10 (by kernel_rfl) rfl #[.slice A1 l1.length c1] rfl (by (try simp only [List.map_toArray, List.map_cons, List.map_nil]); first | done | rfl | (simp only [List.length_drop, List.length_take]; rfl)) ?_; (with_reducible refine (sidingref13_Lines.calls kj10 _ _ l1 t441 _ ?side1 ?side2 A30.out).mono ?_); (case side1 => repeat (first | exact (Kd.C_below HR1.out HB.out) | (with_reducible refine Kd.C_alloc ?_ _) | (with_reducible refine Kd.C_drewN ?_ _) | (with_reducible refine Kd.C_drew ?_))); (case side2 => exact HC1.out); rintro e w43 ⟨rfl, hb⟩; refine ⟨_, rfl, ?_⟩; have n0_ := Aside0.mk (below_step (by repeat (first | (with_reducible first | exact HB.out | apply below_alloc | apply pw_below_drewN | apply below_drew1) | exact HB.out)) hb); clear HB; have HB := n0_; clear n0_; (try clear hb); (try clear hb2); (try clear hk); (try clear hi)))
              go_ret
              exact ⟨by first | rfl | (simp [errW_none, errW_some] <;> rfl) | (simp [*, errW_none, errW_some] <;> rfl), by repeat (first | (with_reducible first | exact HB.out | apply below_alloc | apply pw_below_drewN | apply below_drew1) | exact HB.out)⟩
def sidinglaw13_LinesBack.Pure : Prop := ∀ (l0 : List Int) (l1 : List ByteArray), (l0.length * 1 ≤ 140737488351232 ∧ ∀ x0_ ∈ l0, (Lit.int .u8 x0_).wf = true) → (l1.length * 16 ≤ 140737488351232 ∧ ∀ x0_ ∈ l1, x0_.size ≤ 140737488351232) → ∃ k, sidinglaw13_LinesBack.f k l0 l1 = some true
theorem sidinglaw13_LinesBack.walk (P : sidinglaw13_LinesBack.Pure) (A0 : Option Addr) (c0 : Nat) (l0 : List Int) (A1 : Option Addr) (c1 : Nat) (l1 : List ByteArray) (w : World) (hr0 : Kd.C (Kd.int .u8) w A0 l0.length l0) (hc0 : l0.length ≤ c0) (hr1 : Kd.C Kd.string w A1 l1.length l1) (hc1 : l1.length ≤ c1) (hw0 : l0.length * 1 ≤ 140737488351232 ∧ ∀ x0_ ∈ l0, (Lit.int .u8 x0_).wf = true) (hw1 : l1.length * 16 ≤ 140737488351232 ∧ ∀ x0_ ∈ l1, x0_.size ≤ 140737488351232) :
    Calls Tryd.prog 7 #[.slice A0 l0.length c0, .slice A1 l1.length c1] w fun e w' => e = .returned (.bool true) ∧ Below w.heap.size w w' := by
  obtain ⟨k, h⟩ := P l0 l1 hw0 hw1
  refine (sidinglaw13_LinesBack.calls k A0 c0 l0 A1 c1 l1 true w hr0 hc0 hr1 hc1 h ⟨rfl⟩).mono ?_
  rintro e w' ⟨rfl, hd⟩
  exact ⟨rfl, hd⟩

end Go.Proofs.YtiledjckdnkjgaaDoor.Pr
