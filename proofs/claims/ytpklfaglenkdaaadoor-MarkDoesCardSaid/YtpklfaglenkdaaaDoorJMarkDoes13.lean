/- Part 13 of the proof of MarkDoes: texts put together. -/
import Derived.Test.YtpklfaglenkdaaaDoorJMarkDoes4
import Derived.Test.YtpklfaglenkdaaaDoorJMarkDoes7
import Derived.Test.YtpklfaglenkdaaaDoorJMarkDoes12
namespace Go.Proofs.YtpklfaglenkdaaaDoor.Pr
open Go.RowKit Go.Proofs.YtpklfaglenkdaaaDoorW.PrintWords Go.Proofs.YtpklfaglenkdaaaDoorW.PrintLast Go.Proofs.YtpklfaglenkdaaaDoorW.PrintMore
attribute [local go_sem] max2_int min2_int max_two min_two max_three min_three max_four min_four   
set_option linter.unusedVariables false
set_option linter.unusedSimpArgs false
mutual
def sidingref19_Choose.l0 : Nat → List (S43) → List Int → Int → Int → Option (List ByteArray × Int)
  | 0, _, _, _, _ => none
  | k + 1, x0, x1, x6, x8 => if x8 < x6 then (if 0 ≤ x8 then (if x8 < (x1.length : Int) then (if (rd x1 x8) < 1 then (some (([] : List ByteArray), 2)) else (if (rd x1 x8) > 4 then (some (([] : List ByteArray), 2)) else (sidingref19_Choose.l0 k x0 x1 x6 (wrap64 (x8 + 1))))) else (none)) else (none)) else (sidingref19_Choose.l1 k x0 x1 ([] : List ByteArray) 0 0)
def sidingref19_Choose.l1 : Nat → List (S43) → List Int → List ByteArray → Int → Int → Option (List ByteArray × Int)
  | 0, _, _, _, _, _ => none
  | k + 1, x0, x1, x9, x10, x11 => if x11 < (x0.length : Int) then (if 0 ≤ x11 then (if ((rd_T43 x0 x11).f0) = 5 then (if 0 ≤ x10 then (if x10 < (x1.length : Int) then (if (rd x1 x10) = 1 then (sidingref19_Choose.j2 k x0 x1 x9 x10 x11 true) else (sidingref19_Choose.j2 k x0 x1 x9 x10 x11 ((rd x1 x10) == 4))) else (none)) else (none)) else ((sidingref19_Lines.f ((rd_T43 x0 x11).f0) ((rd_T43 x0 x11).f1) ((rd_T43 x0 x11).f2) ((rd_T43 x0 x11).f3)).bind fun t264 => (if x9.length + t264.length < 8796093022208 then (sidingref19_Choose.l1 k x0 x1 (x9 ++ t264) x10 (wrap64 (x11 + 1))) else (none)))) else (none)) else ((sidingref13_Lines.f k x9).bind fun t292 => (if t292 = 0 then (some (x9, 0)) else ((sidingref13_Lines.f k x9).bind fun t293 => (some (([] : List ByteArray), t293)))))
def sidingref19_Choose.j2 : Nat → List (S43) → List Int → List ByteArray → Int → Int → Bool → Option (List ByteArray × Int)
  | 0, _, _, _, _, _, _ => none
  | k + 1, x0, x1, x9, x10, x11, x71 => if x71 = true then (if 0 ≤ x11 then (if x11 < (x0.length : Int) then (if x9.length + ((rd_T43 x0 x11).f2).length < 8796093022208 then (sidingref19_Choose.j3 k x0 x1 (x9 ++ ((rd_T43 x0 x11).f2)) x10 x11) else (none)) else (none)) else (none)) else (sidingref19_Choose.j3 k x0 x1 x9 x10 x11)
def sidingref19_Choose.j3 : Nat → List (S43) → List Int → List ByteArray → Int → Int → Option (List ByteArray × Int)
  | 0, _, _, _, _, _ => none
  | k + 1, x0, x1, x9, x10, x11 => if 0 ≤ x10 then (if x10 < (x1.length : Int) then (if (rd x1 x10) = 2 then (sidingref19_Choose.j4 k x0 x1 x9 x10 x11 true) else (sidingref19_Choose.j4 k x0 x1 x9 x10 x11 ((rd x1 x10) == 4))) else (none)) else (none)
def sidingref19_Choose.j4 : Nat → List (S43) → List Int → List ByteArray → Int → Int → Bool → Option (List ByteArray × Int)
  | 0, _, _, _, _, _, _ => none
  | k + 1, x0, x1, x9, x10, x11, x90 => if x90 = true then (if 0 ≤ x11 then (if x11 < (x0.length : Int) then (if x9.length + ((rd_T43 x0 x11).f3).length < 8796093022208 then ((some (x9 ++ ((rd_T43 x0 x11).f3) : List ByteArray)).bind fun y279 => (if 0 ≤ x10 then (if x10 < (x1.length : Int) then (if (rd x1 x10) = 3 then (if y279.length + ((rd_T43 x0 x11).f1).length < 8796093022208 then (sidingref19_Choose.l1 k x0 x1 (y279 ++ ((rd_T43 x0 x11).f1)) (wrap64 (x10 + 1)) (wrap64 (x11 + 1))) else (none)) else (sidingref19_Choose.l1 k x0 x1 y279 (wrap64 (x10 + 1)) (wrap64 (x11 + 1)))) else (none)) else (none))) else (none)) else (none)) else (none)) else (if 0 ≤ x10 then (if x10 < (x1.length : Int) then (if (rd x1 x10) = 3 then (if 0 ≤ x11 then (if x11 < (x0.length : Int) then (if x9.length + ((rd_T43 x0 x11).f1).length < 8796093022208 then (sidingref19_Choose.l1 k x0 x1 (x9 ++ ((rd_T43 x0 x11).f1)) (wrap64 (x10 + 1)) (wrap64 (x11 + 1))) else (none)) else (none)) else (none)) else (sidingref19_Choose.l1 k x0 x1 x9 (wrap64 (x10 + 1)) (wrap64 (x11 + 1)))) else (none)) else (none))
end
def sidingref19_Choose.f (k : Nat) (l0 : List (S43)) (l1 : List Int) : Option (List ByteArray × Int) := (sidingref18_Clashes.f k l0).bind fun bt258 => (if bt258.2 = 0 then (if (l1.length : Int) = bt258.1 then (sidingref19_Choose.l0 k l0 l1 bt258.1 0) else (some (([] : List ByteArray), 2))) else (some (([] : List ByteArray), bt258.2)))
set_option maxHeartbeats 8000000 in
set_option maxRecDepth 100000 in
theorem sidingref19_Choose.calls (k : Nat) (A0 : Option Addr) (c0 : Nat) (l0 : List (S43)) (A1 : Option Addr) (c1 : Nat) (l1 : List Int) (r1 : List ByteArray) (r2 : Int) (w : World) (hr0 : Kd.C k43 w A0 l0.length l0) (hc0 : l0.length ≤ c0) (hr1 : Kd.C (Kd.int .u8) w A1 l1.length l1) (hc1 : l1.length ≤ c1) (h : sidingref19_Choose.f k l0 l1 = some (r1, r2)) :
  Calls Tryd.prog 15 #[.slice A0 l0.length c0, .slice A1 l1.length c1] w fun e w' => ∃ v0_ : Value, e = .returned (.tuple #[v0_, .int .i64 r2]) ∧ Kd.R Kd.string 9 w' w.heap.size (fun _ => True) v0_ r1 ∧ Below w.heap.size w w' := by
 have hu43 := Tryd.underlying43
 have HR0 := Aside0.mk hr0
 have HC0 := Aside0.mk hc0
 clear hr0 hc0
 have HR1 := Aside0.mk hr1
 have HC1 := Aside0.mk hc1
 clear hr1 hc1
 have HB := Aside0.mk (Below.refl w.heap.size w)
 have H : ((sidingref18_Clashes.f k l0).bind fun bt258 => (if bt258.2 = 0 then (if (l1.length : Int) = bt258.1 then (sidingref19_Choose.l0 k l0 l1 bt258.1 0) else (some (([] : List ByteArray), 2))) else (some (([] : List ByteArray), bt258.2)))) = some (r1, r2) := h
 clear h
 replace H := Option.bind_eq_some_iff.mp H
 obtain ⟨⟨t258, t259⟩, A30, H⟩ := H
 replace H : (if t259 = 0 then (if (l1.length : Int) = t258 then (sidingref19_Choose.l0 k l0 l1 t258 0) else (some (([] : List ByteArray), 2))) else (some (([] : List ByteArray), t259))) = some (r1, r2) := H
 have A3 := Aside0.mk A30
 clear A30
 by_cases c4 : t259 = 0
 ·rw [if_pos c4] at H
  have c4b0 : (t259 == 0) = true := beq_iff_eq.mpr c4
  have c4b1 : (t259 != 0) = false := bne_eq_false_iff_eq.mpr c4
  clear c4
  by_cases c5 : (l1.length : Int) = t258
  ·rw [if_pos c5] at H
   have c5b0 : ((l1.length : Int) == t258) = true := beq_iff_eq.mpr c5
   have c5b1 : ((l1.length : Int) != t258) = false := bne_eq_false_iff_eq.mpr c5
   clear c5
   have H' := Aside0.mk H
   clear H
   go_enter Tryd.func15, Tryd.ntmps15
   go_wp2_with (first | ((with_reducible refine gate_callee (f := 42) rfl ?_); refine goesL_ (some 14) rfl rfl Tryd.func42 (by kernel_rfl) rfl #[.slice A0 l0.length c0] rfl (by (try simp only [List.map_toArray, List.map_cons, List.map_nil]); first | done | rfl | (simp only [List.length_drop, List.length_take]; rfl)) ?_; (with_reducible refine (sidingref18_Clashes.calls k _ _ l0 t258 t259 _ ?side1 ?side2 A3.out).mono ?_); (case side1 => repeat (first | exact HR0.out | (with_reducible refine Kd.C_alloc ?_ _) | (with_reducible refine Kd.C_drewN ?_ _) | (with_reducible refine Kd.C_drew ?_))); (case side2 => exact HC0.out); rintro e w6 ⟨rfl, hb⟩; refine ⟨_, rfl, ?_⟩; have n0_ := Aside0.mk (below_step (by repeat (first | (with_reducible first | exact HB.out | apply below_alloc | apply pw_below_drewN | apply below_drew1) | exact HB.out)) hb); clear HB; have HB := n0_; clear n0_; (try clear hb); (try clear hb2); (try clear hk); (try clear hi)))
   go_loopg [8] k (fun kq v8 w' => ∃ (x8_1 : Int), v8 = .int .i64 x8_1 ∧ Aside0 (sidingref19_Choose.l0 kq l0 l1 t258 x8_1 = some (r1, r2)) ∧ Aside0 (kq ≤ k) ∧ Aside0 (Below w.heap.size w w'))
   case atStart => exact ⟨(0), (by first | rfl | (simp; done) | (simp [*]; done)), H', ⟨Nat.le_refl _⟩, ⟨by repeat (first | (with_reducible first | exact HB.out | apply below_alloc | apply pw_below_drewN | apply below_drew1) | exact HB.out)⟩⟩
   case round =>
    clear H'
    try clear c1
    try clear p2
    try clear c4
    try clear c4b0
    try clear c4b1
    try clear c5
    try clear c5b0
    try clear c5b1
    obtain ⟨x8_1, rfl, HA, HK1, HB⟩ := hrel
    cases gk with
    | zero => exact absurd HA.out (by simp [sidingref19_Choose.l0])
    | succ k1 =>
     have H := HA.out
     clear HA
     simp only [sidingref19_Choose.l0] at H
     by_cases c7 : x8_1 < t258
     ·rw [if_pos c7] at H
      have c7b0 : decide (x8_1 < t258) = true := decide_eq_true c7
      clear c7
      by_cases c8 : 0 ≤ x8_1
      ·rw [if_pos c8] at H
       have c8b0 : decide (0 ≤ x8_1) = true := decide_eq_true c8
       clear c8
       by_cases c9 : x8_1 < (l1.length : Int)
       ·rw [if_pos c9] at H
        have c9b0 : decide (x8_1 < (l1.length : Int)) = true := decide_eq_true c9
        clear c9
        by_cases c10 : (rd l1 x8_1) < 1
        ·rw [if_pos c10] at H
         have c10b0 : decide ((rd l1 x8_1) < 1) = true := decide_eq_true c10
         clear c10
         simp only [Option.some.injEq, Prod.mk.injEq] at H
         obtain ⟨rfl, rfl⟩ := H
         have p260 : 0 ≤ (x8_1 : Int) := of_decide_eq_true (by first | (with_reducible assumption) | assumption)
         have q260 : x8_1 < (l1.length : Int) := of_decide_eq_true (by first | (with_reducible assumption) | assumption)
         obtain ⟨ad260, e260, hx260_0⟩ := Kd.at_int HR1.out x8_1 p260 q260
         cases e260
         replace hx260_0 := (HB.out.cell (World.block_lt_of_cell? w _ hx260_0)).trans hx260_0
         replace p260 := eq_true p260
         replace q260 := eq_true q260
         go_wp2
         go_ret2
         exact ⟨_, by first | rfl | (simp [errW_none, errW_some] <;> rfl) | (simp [*, errW_none, errW_some] <;> rfl), by first | exact Kd.R_nil _ _ _ _ _ | exact Kd.N_nil _ _ _ _ _ | exact Kd.V_nil _ _ _ _ _ | exact Kd.Q_nil _ _ _ _ _ | exact Kd.S_nil _ _ _ _ _, by repeat (first | (with_reducible first | exact HB.out | apply below_alloc | apply pw_below_drewN | apply below_drew1) | exact HB.out)⟩
        ·rw [if_neg c10] at H
         have c10b0 : decide ((rd l1 x8_1) < 1) = false := decide_eq_false c10
         clear c10
         by_cases c11 : (rd l1 x8_1) > 4
         ·rw [if_pos c11] at H
          have c11b0 : decide (4 < (rd l1 x8_1)) = true := decide_eq_true c11
          clear c11
          simp only [Option.some.injEq, Prod.mk.injEq] at H
          obtain ⟨rfl, rfl⟩ := H
          have p260 : 0 ≤ (x8_1 : Int) := of_decide_eq_true (by first | (with_reducible assumption) | assumption)
          have q260 : x8_1 < (l1.length : Int) := of_decide_eq_true (by first | (with_reducible assumption) | assumption)
          obtain ⟨ad260, e260, hx260_0⟩ := Kd.at_int HR1.out x8_1 p260 q260
          cases e260
          replace hx260_0 := (HB.out.cell (World.block_lt_of_cell? w _ hx260_0)).trans hx260_0
          replace p260 := eq_true p260
          replace q260 := eq_true q260
          have p261 : 0 ≤ (x8_1 : Int) := of_decide_eq_true (by first | (with_reducible assumption) | assumption)
          have q261 : x8_1 < (l1.length : Int) := of_decide_eq_true (by first | (with_reducible assumption) | assumption)
          obtain ⟨ad261, e261, hx261_0⟩ := Kd.at_int HR1.out x8_1 p261 q261
          obtain rfl : ad260 = ad261 := (by injection e261)
          replace hx261_0 := (HB.out.cell (World.block_lt_of_cell? w _ hx261_0)).trans hx261_0
          replace p261 := eq_true p261
          replace q261 := eq_true q261
          go_wp2
          go_ret2
          exact ⟨_, by first | rfl | (simp [errW_none, errW_some] <;> rfl) | (simp [*, errW_none, errW_some] <;> rfl), by first | exact Kd.R_nil _ _ _ _ _ | exact Kd.N_nil _ _ _ _ _ | exact Kd.V_nil _ _ _ _ _ | exact Kd.Q_nil _ _ _ _ _ | exact Kd.S_nil _ _ _ _ _, by repeat (first | (with_reducible first | exact HB.out | apply below_alloc | apply pw_below_drewN | apply below_drew1) | exact HB.out)⟩
         ·rw [if_neg c11] at H
          have c11b0 : decide (4 < (rd l1 x8_1)) = false := decide_eq_false c11
          clear c11
          have H' := Aside0.mk H
          clear H
          have p260 : 0 ≤ (x8_1 : Int) := of_decide_eq_true (by first | (with_reducible assumption) | assumption)
          have q260 : x8_1 < (l1.length : Int) := of_decide_eq_true (by first | (with_reducible assumption) | assumption)
          obtain ⟨ad260, e260, hx260_0⟩ := Kd.at_int HR1.out x8_1 p260 q260
          cases e260
          replace hx260_0 := (HB.out.cell (World.block_lt_of_cell? w _ hx260_0)).trans hx260_0
          replace p260 := eq_true p260
          replace q260 := eq_true q260
          have p261 : 0 ≤ (x8_1 : Int) := of_decide_eq_true (by first | (with_reducible assumption) | assumption)
          have q261 : x8_1 < (l1.length : Int) := of_decide_eq_true (by first | (with_reducible assumption) | assumption)
          obtain ⟨ad261, e261, hx261_0⟩ := Kd.at_int HR1.out x8_1 p261 q261
          obtain rfl : ad260 = ad261 := (by injection e261)
          replace hx261_0 := (HB.out.cell (World.block_lt_of_cell? w _ hx261_0)).trans hx261_0
          replace p261 := eq_true p261
          replace q261 := eq_true q261
          go_wp2
          go_roundg k1
          case measure => have := HK1.out; omega
          case rel => exact ⟨(wrap64 (x8_1 + 1)), (by first | rfl | (simp; done) | (simp [*]; done)), H', ⟨by have := HK1.out; omega⟩, ⟨by repeat (first | (with_reducible first | exact HB.out | apply below_alloc | apply pw_below_drewN | apply below_drew1) | exact HB.out)⟩⟩
       ·rw [if_neg c9] at H
        exact absurd H (by simp)
      ·rw [if_neg c8] at H
       exact absurd H (by simp)
     ·rw [if_neg c7] at H
      have c7b0 : decide (x8_1 < t258) = false := decide_eq_false c7
      clear c7
      have H' := Aside0.mk H
      clear H
      go_wp2
      go_loopg [9, 10, 11] k1 (fun kq v9 v10 v11 w' => ∃ (x9_2 : List ByteArray) (x10_2 : Int) (x11_2 : Int), v10 = .int .i64 x10_2 ∧ v11 = .int .i64 x11_2 ∧ Aside0 (sidingref19_Choose.l1 kq l0 l1 x9_2 x10_2 x11_2 = some (r1, r2)) ∧ Aside0 (kq ≤ k1) ∧ Aside0 (Kd.R Kd.string 9 w' w.heap.size (fun _ => True) v9 x9_2) ∧ Aside0 (Below w.heap.size w w'))
      case atStart => exact ⟨(([] : List ByteArray)), (0), (0), (by first | rfl | (simp; done) | (simp [*]; done)), (by first | rfl | (simp; done) | (simp [*]; done)), H', ⟨Nat.le_refl _⟩, ⟨by first | exact Kd.R_nil _ _ _ _ _ | exact Kd.N_nil _ _ _ _ _ | exact Kd.V_nil _ _ _ _ _ | exact Kd.Q_nil _ _ _ _ _ | exact Kd.S_nil _ _ _ _ _⟩, ⟨by repeat (first | (with_reducible first | exact HB.out | apply below_alloc | apply pw_below_drewN | apply below_drew1) | exact HB.out)⟩⟩
      case round =>
       clear H'
       try clear c1
       try clear p2
       try clear q2
       try clear hx2
       try clear c4
       try clear c4b0
       try clear c4b1
       try clear c5
       try clear c5b0
       try clear c5b1
       try clear p6
       try clear c7
       try clear c7b0
       try clear c8
       try clear c8b0
       try clear c9
       try clear c9b0
       try clear c10
       try clear c10b0
       try clear c11
       try clear c11b0
       try clear hx260_0
       try clear hx261_0
       try clear p2
       try clear p260
       try clear p261
       try clear q260
       try clear q261
       obtain ⟨x9_2, x10_2, x11_2, rfl, rfl, HA, HK2, HO_9, HB⟩ := hrel
       cases gk with
       | zero => exact absurd HA.out (by simp [sidingref19_Choose.l1])
       | succ k2 =>
        have H := HA.out
        clear HA
        simp only [sidingref19_Choose.l1] at H
        by_cases c12 : x11_2 < (l0.length : Int)
        ·rw [if_pos c12] at H
         have c12b0 : decide (x11_2 < (l0.length : Int)) = true := decide_eq_true c12
         clear c12
         by_cases c13 : 0 ≤ x11_2
         ·rw [if_pos c13] at H
          have c13b0 : decide (0 ≤ x11_2) = true := decide_eq_true c13
          clear c13
          by_cases c14 : ((rd_T43 l0 x11_2).f0) = 5
          ·rw [if_pos c14] at H
           have c14b0 : (((rd_T43 l0 x11_2).f0) == 5) = true := beq_iff_eq.mpr c14
           have c14b1 : (((rd_T43 l0 x11_2).f0) != 5) = false := bne_eq_false_iff_eq.mpr c14
           clear c14
           have HC15 := Aside0.mk H
           clear H
           have p262 : 0 ≤ (x11_2 : Int) := of_decide_eq_true (by first | (with_reducible assumption) | assumption)
           have q262 : x11_2 < (l0.length : Int) := of_decide_eq_true (by first | (with_reducible assumption) | assumption)
           obtain ⟨ad262, A262_1, c262_1, A262_2, c262_2, A262_3, c262_3, e262, hx262_0, hx262_1, hx262_2, hx262_3, hl262_1, hi262_1, hl262_2, hi262_2, hl262_3, hi262_3⟩ := at_T43 HR0.out x11_2 p262 q262
           cases e262
           replace hx262_0 := (HB.out.cell (World.block_lt_of_cell? w _ hx262_0)).trans hx262_0
           replace hx262_1 := (HB.out.cell (World.block_lt_of_cell? w _ hx262_1)).trans hx262_1
           replace hx262_2 := (HB.out.cell (World.block_lt_of_cell? w _ hx262_2)).trans hx262_2
           replace hx262_3 := (HB.out.cell (World.block_lt_of_cell? w _ hx262_3)).trans hx262_3
           have HR262_1 := Aside0.mk hi262_1
           have HC262_1 := Aside0.mk hl262_1
           clear hi262_1 hl262_1
           have HR262_2 := Aside0.mk hi262_2
           have HC262_2 := Aside0.mk hl262_2
           clear hi262_2 hl262_2
           have HR262_3 := Aside0.mk hi262_3
           have HC262_3 := Aside0.mk hl262_3
           clear hi262_3 hl262_3
           replace p262 := eq_true p262
           replace q262 := eq_true q262
           go_upto_region 18 with (fail)
           go_cut [71] (fun v71 wc => ∃ (kq : Nat) (x71_14 : Bool), v71 = .bool x71_14 ∧ Aside0 (sidingref19_Choose.j2 kq l0 l1 x9_2 x10_2 x11_2 x71_14 = some (r1, r2)) ∧ Aside0 (kq ≤ k2) ∧ Aside0 (Kd.R Kd.string 9 wc w.heap.size (fun _ => True) u9 x9_2) ∧ Aside0 (Below w.heap.size w wc))
           case first =>
            have H := HC15.out
            clear HC15
            by_cases c16 : 0 ≤ x10_2
            ·rw [if_pos c16] at H
             have c16b0 : decide (0 ≤ x10_2) = true := decide_eq_true c16
             clear c16
             (first | rw [c16b0] | (simp only [i64_w, i32_w]; rw [c16b0]) | skip)
             by_cases c17 : x10_2 < (l1.length : Int)
             ·rw [if_pos c17] at H
              have c17b0 : decide (x10_2 < (l1.length : Int)) = true := decide_eq_true c17
              clear c17
              by_cases c18 : (rd l1 x10_2) = 1
              ·rw [if_pos c18] at H
               have c18b0 : ((rd l1 x10_2) == 1) = true := beq_iff_eq.mpr c18
               have c18b1 : ((rd l1 x10_2) != 1) = false := bne_eq_false_iff_eq.mpr c18
               clear c18
               have H' := Aside0.mk H
               clear H
               have p270 : 0 ≤ (x10_2 : Int) := of_decide_eq_true (by first | (with_reducible assumption) | assumption)
               have q270 : x10_2 < (l1.length : Int) := of_decide_eq_true (by first | (with_reducible assumption) | assumption)
               obtain ⟨ad270, e270, hx270_0⟩ := Kd.at_int HR1.out x10_2 p270 q270
               cases e270
               replace hx270_0 := (HB.out.cell (World.block_lt_of_cell? w _ hx270_0)).trans hx270_0
               replace p270 := eq_true p270
               replace q270 := eq_true q270
               go_wp2
               go_meet
               case rel => exact ⟨_, (true), (by first | rfl | (simp; done) | (simp [*]; done)), H', ⟨by have := HK1.out; have := HK2.out; first | omega | exact Nat.le_refl _⟩, ⟨by (with_reducible repeat (first | apply Kd.R_alloc | apply Kd.R_drewN | apply Kd.R_drew)); exact HO_9.out⟩, ⟨by repeat (first | (with_reducible first | exact HB.out | apply below_alloc | apply pw_below_drewN | apply below_drew1) | exact HB.out)⟩⟩
              ·rw [if_neg c18] at H
               have c18b0 : ((rd l1 x10_2) == 1) = false := beq_eq_false_iff_ne.mpr c18
               have c18b1 : ((rd l1 x10_2) != 1) = true := bne_iff_ne.mpr c18
               have H' := Aside0.mk H
               clear H
               have p270 : 0 ≤ (x10_2 : Int) := of_decide_eq_true (by first | (with_reducible assumption) | assumption)
               have q270 : x10_2 < (l1.length : Int) := of_decide_eq_true (by first | (with_reducible assumption) | assumption)
               obtain ⟨ad270, e270, hx270_0⟩ := Kd.at_int HR1.out x10_2 p270 q270
               cases e270
               replace hx270_0 := (HB.out.cell (World.block_lt_of_cell? w _ hx270_0)).trans hx270_0
               replace p270 := eq_true p270
               replace q270 := eq_true q270
               have p271 : 0 ≤ (x10_2 : Int) := of_decide_eq_true (by first | (with_reducible assumption) | assumption)
               have q271 : x10_2 < (l1.length : Int) := of_decide_eq_true (by first | (with_reducible assumption) | assumption)
               obtain ⟨ad271, e271, hx271_0⟩ := Kd.at_int HR1.out x10_2 p271 q271
               obtain rfl : ad270 = ad271 := (by injection e271)
               replace hx271_0 := (HB.out.cell (World.block_lt_of_cell? w _ hx271_0)).trans hx271_0
               replace p271 := eq_true p271
               replace q271 := eq_true q271
               go_wp2
               go_meet
               case rel => exact ⟨_, (((rd l1 x10_2) == 4)), (by first | rfl | (simp; done) | (simp [*]; done)), H', ⟨by have := HK1.out; have := HK2.out; first | omega | exact Nat.le_refl _⟩, ⟨by (with_reducible repeat (first | apply Kd.R_alloc | apply Kd.R_drewN | apply Kd.R_drew)); exact HO_9.out⟩, ⟨by repeat (first | (with_reducible first | exact HB.out | apply below_alloc | apply pw_below_drewN | apply below_drew1) | exact HB.out)⟩⟩
             ·rw [if_neg c17] at H
              exact absurd H (by simp)
            ·rw [if_neg c16] at H
             exact absurd H (by simp)
           case rest =>
            clear HC15
            try clear c1
            try clear c2
            try clear p2
            try clear q2
            try clear hx2
            try clear c4
            try clear c4b0
            try clear c4b1
            try clear c5
            try clear c5b0
            try clear c5b1
            try clear p6
            try clear c7
            try clear c7b0
            try clear c8
            try clear c8b0
            try clear c9
            try clear c9b0
            try clear c10
            try clear c10b0
            try clear c11
            try clear c11b0
            try clear c12
            try clear c12b0
            try clear c13
            try clear c13b0
            try clear c14
            try clear c14b0
            try clear c14b1
            try clear c15
            try clear c16
            try clear c16b0
            try clear c17
            try clear c17b0
            try clear c18
            try clear c18b0
            try clear c18b1
            try clear hx260_0
            try clear hx261_0
            try clear hx262_0
            try clear hx262_1
            try clear hx262_2
            try clear hx262_3
            try clear hx270_0
            try clear hx271_0
            try clear p2
            try clear p260
            try clear p261
            try clear p262
            try clear p270
            try clear p271
            try clear p6
            try clear q2
            try clear q260
            try clear q261
            try clear q262
            try clear q270
            try clear q271
            obtain ⟨kq, x71_14, rfl, HA, HJ14, HO_9, HB⟩ := hcut
            cases kq with
            | zero => exact absurd HA.out (by simp [sidingref19_Choose.j2])
            | succ kj14 =>
             have H := HA.out
             clear HA
             simp only [sidingref19_Choose.j2] at H
             have HC19 := Aside0.mk H
             clear H
             go_upto_if 71 with (fail)
             go_cut [9] (fun v9 wc => ∃ (kq : Nat) (x9_18 : List ByteArray), Aside0 (sidingref19_Choose.j3 kq l0 l1 x9_18 x10_2 x11_2 = some (r1, r2)) ∧ Aside0 (kq ≤ kj14) ∧ Aside0 (Kd.R Kd.string 9 wc w.heap.size (fun _ => True) v9 x9_18) ∧ Aside0 (Below w.heap.size w wc))
             case first =>
              have H := HC19.out
              clear HC19
              by_cases c20 : x71_14 = true
              ·subst c20
               have H1 : (if 0 ≤ x11_2 then (if x11_2 < (l0.length : Int) then (if x9_2.length + ((rd_T43 l0 x11_2).f2).length < 8796093022208 then (sidingref19_Choose.j3 kj14 l0 l1 (x9_2 ++ ((rd_T43 l0 x11_2).f2)) x10_2 x11_2) else (none)) else (none)) else (none)) = some (r1, r2) := by rw [if_pos rfl] at H; exact H
               clear H
               have H := H1
               clear H1
               by_cases c21 : 0 ≤ x11_2
               ·rw [if_pos c21] at H
                have c21b0 : decide (0 ≤ x11_2) = true := decide_eq_true c21
                clear c21
                (first | rw [c21b0] | (simp only [i64_w, i32_w]; rw [c21b0]) | skip)
                by_cases c22 : x11_2 < (l0.length : Int)
                ·rw [if_pos c22] at H
                 have c22b0 : decide (x11_2 < (l0.length : Int)) = true := decide_eq_true c22
                 clear c22
                 by_cases c23 : x9_2.length + ((rd_T43 l0 x11_2).f2).length < 8796093022208
                 ·rw [if_pos c23] at H
                  have LMc23 := Aside0.mk c23
                  clear c23
                  obtain ⟨y273, hy273⟩ : ∃ y_ : List ByteArray, y_ = (x9_2 ++ ((rd_T43 l0 x11_2).f2)) := ⟨_, rfl⟩
                  replace H : (sidingref19_Choose.j3 kj14 l0 l1 y273 x10_2 x11_2) = some (r1, r2) := by first | (rw [hy273]; with_reducible exact H) | (have H2_ := (Option.bind_some _ _).symm.trans H; rw [hy273]; with_reducible exact H2_) | (have H2_ := (Option.bind_some _ _).symm.trans H; with_reducible exact H2_) | with_reducible exact H | (rw [hy273]; exact H) | exact H
                  have Ny273 := Aside0.mk hy273
                  clear hy273
                  have H' := Aside0.mk H
                  clear H
                  have p272 : 0 ≤ (x11_2 : Int) := of_decide_eq_true (by first | (with_reducible assumption) | assumption)
                  have q272 : x11_2 < (l0.length : Int) := of_decide_eq_true (by first | (with_reducible assumption) | assumption)
                  obtain ⟨ad272, A272_1, c272_1, A272_2, c272_2, A272_3, c272_3, e272, hx272_0, hx272_1, hx272_2, hx272_3, hl272_1, hi272_1, hl272_2, hi272_2, hl272_3, hi272_3⟩ := at_T43 HR0.out x11_2 p272 q272
                  obtain rfl : ad262 = ad272 := (by injection e272)
                  replace hx272_0 := (HB.out.cell (World.block_lt_of_cell? w _ hx272_0)).trans hx272_0
                  replace hx272_1 := (HB.out.cell (World.block_lt_of_cell? w _ hx272_1)).trans hx272_1
                  replace hx272_2 := (HB.out.cell (World.block_lt_of_cell? w _ hx272_2)).trans hx272_2
                  replace hx272_3 := (HB.out.cell (World.block_lt_of_cell? w _ hx272_3)).trans hx272_3
                  have HR272_1 := Aside0.mk hi272_1
                  have HC272_1 := Aside0.mk hl272_1
                  clear hi272_1 hl272_1
                  have HR272_2 := Aside0.mk hi272_2
                  have HC272_2 := Aside0.mk hl272_2
                  clear hi272_2 hl272_2
                  have HR272_3 := Aside0.mk hi272_3
                  have HC272_3 := Aside0.mk hl272_3
                  clear hi272_3 hl272_3
                  replace p272 := eq_true p272
                  replace q272 := eq_true q272
                  go_wp2_with (first | ((with_reducible refine gate_builtin (b := .append) (xs := #[.tmp 72, .tmp 77]) rfl ?_); at_builtin; refine Kd.R_append_rows Kd.string (w0 := w) w.heap.size rfl (.tmp 72) (.tmp 77) 23 9 (.string ⟨#[]⟩) 16 rfl Tryd.underlying23 info9 rfl (by decide) (by omega) u9 x9_2 ((rd_T43 l0 x11_2).f2) _ _ _ (fun _ => True) (fun _ => False) rfl rfl ?aO ?aR (fun _ _ h => h) (fun _ h => h.elim) ?aF ?aB ?aS ?aL ?_; (case aR => repeat (first | exact (Kd.C_below HR272_2.out HB.out) | (with_reducible refine Kd.C_alloc ?_ _) | (with_reducible refine Kd.C_drewN ?_ _) | (with_reducible refine Kd.C_drew ?_))); (case aB => exact (by repeat (first | (with_reducible first | exact HB.out | apply below_alloc | apply pw_below_drewN | apply below_drew1) | exact HB.out))); (case aF => exact (fun _ _ => trivial)); (case aO => exact (by (with_reducible repeat (first | apply Kd.R_alloc | apply Kd.R_drewN | apply Kd.R_drew)); exact HO_9.out)); (case aS => exact (below_size (by repeat (first | (with_reducible first | exact HB.out | apply below_alloc | apply pw_below_drewN | apply below_drew1) | exact HB.out)))); (case aL => have := LMc23.out; omega); intro v274 w24 ho hb hg hat; rw [← Ny273.out] at ho; have n0_ := Aside0.mk (hb); have n1_ := Aside0.mk (ho); clear HB; clear HO_9; have HB := n0_; have HO275 := n1_; clear n0_ n1_; clear ho hb hg hat))
                  go_meet
                  case rel => exact ⟨_, (y273), H', ⟨by have := HK1.out; have := HK2.out; have := HJ14.out; first | omega | exact Nat.le_refl _⟩, ⟨by (with_reducible repeat (first | apply Kd.R_alloc | apply Kd.R_drewN | apply Kd.R_drew)); exact HO275.out⟩, ⟨by repeat (first | (with_reducible first | exact HB.out | apply below_alloc | apply pw_below_drewN | apply below_drew1) | exact HB.out)⟩⟩
                 ·rw [if_neg c23] at H
                  exact absurd H (by simp)
                ·rw [if_neg c22] at H
                 exact absurd H (by simp)
               ·rw [if_neg c21] at H
                exact absurd H (by simp)
              ·replace c20 := Bool.eq_false_iff.mpr c20
               subst c20
               have H1 : (sidingref19_Choose.j3 kj14 l0 l1 x9_2 x10_2 x11_2) = some (r1, r2) := by rw [if_neg (show ¬ (false = true) by decide)] at H; exact H
               clear H
               have H := H1
               clear H1
               have H' := Aside0.mk H
               clear H
               go_wp2
               go_meet
               case rel => exact ⟨_, (x9_2), H', ⟨by have := HK1.out; have := HK2.out; have := HJ14.out; first | omega | exact Nat.le_refl _⟩, ⟨by (with_reducible repeat (first | apply Kd.R_alloc | apply Kd.R_drewN | apply Kd.R_drew)); exact HO_9.out⟩, ⟨by repeat (first | (with_reducible first | exact HB.out | apply below_alloc | apply pw_below_drewN | apply below_drew1) | exact HB.out)⟩⟩
             case rest =>
              clear HC19
              try clear c1
              try clear c2
              try clear p2
              try clear q2
              try clear hx2
              try clear c4
              try clear c4b0
              try clear c4b1
              try clear c5
              try clear c5b0
              try clear c5b1
              try clear p6
              try clear c7
              try clear c7b0
              try clear c8
              try clear c8b0
              try clear c9
              try clear c9b0
              try clear c10
              try clear c10b0
              try clear c11
              try clear c11b0
              try clear c12
              try clear c12b0
              try clear c13
              try clear c13b0
              try clear c14
              try clear c14b0
              try clear c14b1
              try clear c15
              try clear c16
              try clear c16b0
              try clear c17
              try clear c17b0
              try clear c18
              try clear c18b0
              try clear c18b1
              try clear c20
              try clear c21
              try clear c21b0
              try clear c22
              try clear c22b0
              try clear c23
              try clear hx260_0
              try clear hx261_0
              try clear hx262_0
              try clear hx262_1
              try clear hx262_2
              try clear hx262_3
              try clear hx270_0
              try clear hx271_0
              try clear hx272_0
              try clear hx272_1
              try clear hx272_2
              try clear hx272_3
              try clear p2
              try clear p260
              try clear p261
              try clear p262
              try clear p270
              try clear p271
              try clear p272
              try clear p6
              try clear q2
              try clear q260
              try clear q261
              try clear q262
              try clear q270
              try clear q271
              try clear q272
              obtain ⟨kq, x9_18, HA, HJ18, HO_9, HB⟩ := hcut
              cases kq with
              | zero => exact absurd HA.out (by simp [sidingref19_Choose.j3])
              | succ kj18 =>
               have H := HA.out
               clear HA
               simp only [sidingref19_Choose.j3] at H
               have HC25 := Aside0.mk H
               clear H
               go_upto_region 20 with (fail)
               go_cut [90] (fun v90 wc => ∃ (kq : Nat) (x90_24 : Bool), v90 = .bool x90_24 ∧ Aside0 (sidingref19_Choose.j4 kq l0 l1 x9_18 x10_2 x11_2 x90_24 = some (r1, r2)) ∧ Aside0 (kq ≤ kj18) ∧ Aside0 (Kd.R Kd.string 9 wc w.heap.size (fun _ => True) u9 x9_18) ∧ Aside0 (Below w.heap.size w wc))
               case first =>
                have H := HC25.out
                clear HC25
                by_cases c26 : 0 ≤ x10_2
                ·rw [if_pos c26] at H
                 have c26b0 : decide (0 ≤ x10_2) = true := decide_eq_true c26
                 clear c26
                 (first | rw [c26b0] | (simp only [i64_w, i32_w]; rw [c26b0]) | skip)
                 by_cases c27 : x10_2 < (l1.length : Int)
                 ·rw [if_pos c27] at H
                  have c27b0 : decide (x10_2 < (l1.length : Int)) = true := decide_eq_true c27
                  clear c27
                  by_cases c28 : (rd l1 x10_2) = 2
                  ·rw [if_pos c28] at H
                   have c28b0 : ((rd l1 x10_2) == 2) = true := beq_iff_eq.mpr c28
                   have c28b1 : ((rd l1 x10_2) != 2) = false := bne_eq_false_iff_eq.mpr c28
                   clear c28
                   have H' := Aside0.mk H
                   clear H
                   have p276 : 0 ≤ (x10_2 : Int) := of_decide_eq_true (by first | (with_reducible assumption) | assumption)
                   have q276 : x10_2 < (l1.length : Int) := of_decide_eq_true (by first | (with_reducible assumption) | assumption)
                   obtain ⟨ad276, e276, hx276_0⟩ := Kd.at_int HR1.out x10_2 p276 q276
                   cases e276
                   replace hx276_0 := (HB.out.cell (World.block_lt_of_cell? w _ hx276_0)).trans hx276_0
                   replace p276 := eq_true p276
                   replace q276 := eq_true q276
                   go_wp2
                   go_meet
                   case rel => exact ⟨_, (true), (by first | rfl | (simp; done) | (simp [*]; done)), H', ⟨by have := HK1.out; have := HK2.out; have := HJ14.out; have := HJ18.out; first | omega | exact Nat.le_refl _⟩, ⟨by (with_reducible repeat (first | apply Kd.R_alloc | apply Kd.R_drewN | apply Kd.R_drew)); exact HO_9.out⟩, ⟨by repeat (first | (with_reducible first | exact HB.out | apply below_alloc | apply pw_below_drewN | apply below_drew1) | exact HB.out)⟩⟩
                  ·rw [if_neg c28] at H
                   have c28b0 : ((rd l1 x10_2) == 2) = false := beq_eq_false_iff_ne.mpr c28
                   have c28b1 : ((rd l1 x10_2) != 2) = true := bne_iff_ne.mpr c28
                   have H' := Aside0.mk H
                   clear H
                   have p276 : 0 ≤ (x10_2 : Int) := of_decide_eq_true (by first | (with_reducible assumption) | assumption)
                   have q276 : x10_2 < (l1.length : Int) := of_decide_eq_true (by first | (with_reducible assumption) | assumption)
                   obtain ⟨ad276, e276, hx276_0⟩ := Kd.at_int HR1.out x10_2 p276 q276
                   cases e276
                   replace hx276_0 := (HB.out.cell (World.block_lt_of_cell? w _ hx276_0)).trans hx276_0
                   replace p276 := eq_true p276
                   replace q276 := eq_true q276
                   have p277 : 0 ≤ (x10_2 : Int) := of_decide_eq_true (by first | (with_reducible assumption) | assumption)
                   have q277 : x10_2 < (l1.length : Int) := of_decide_eq_true (by first | (with_reducible assumption) | assumption)
                   obtain ⟨ad277, e277, hx277_0⟩ := Kd.at_int HR1.out x10_2 p277 q277
                   obtain rfl : ad276 = ad277 := (by injection e277)
                   replace hx277_0 := (HB.out.cell (World.block_lt_of_cell? w _ hx277_0)).trans hx277_0
                   replace p277 := eq_true p277
                   replace q277 := eq_true q277
                   go_wp2
                   go_meet
                   case rel => exact ⟨_, (((rd l1 x10_2) == 4)), (by first | rfl | (simp; done) | (simp [*]; done)), H', ⟨by have := HK1.out; have := HK2.out; have := HJ14.out; have := HJ18.out; first | omega | exact Nat.le_refl _⟩, ⟨by (with_reducible repeat (first | apply Kd.R_alloc | apply Kd.R_drewN | apply Kd.R_drew)); exact HO_9.out⟩, ⟨by repeat (first | (with_reducible first | exact HB.out | apply below_alloc | apply pw_below_drewN | apply below_drew1) | exact HB.out)⟩⟩
                 ·rw [if_neg c27] at H
                  exact absurd H (by simp)
                ·rw [if_neg c26] at H
                 exact absurd H (by simp)
               case rest =>
                clear HC25
                try clear c1
                try clear c2
                try clear p2
                try clear q2
                try clear hx2
                try clear c4
                try clear c4b0
                try clear c4b1
                try clear c5
                try clear c5b0
                try clear c5b1
                try clear p6
                try clear c7
                try clear c7b0
                try clear c8
                try clear c8b0
                try clear c9
                try clear c9b0
                try clear c10
                try clear c10b0
                try clear c11
                try clear c11b0
                try clear c12
                try clear c12b0
                try clear c13
                try clear c13b0
                try clear c14
                try clear c14b0
                try clear c14b1
                try clear c15
                try clear c16
                try clear c16b0
                try clear c17
                try clear c17b0
                try clear c18
                try clear c18b0
                try clear c18b1
                try clear c20
                try clear c21
                try clear c21b0
                try clear c22
                try clear c22b0
                try clear c23
                try clear c26
                try clear c26b0
                try clear p26
                try clear q26
                try clear hx26
                try clear c27
                try clear c27b0
                try clear p27
                try clear q27
                try clear hx27
                try clear c28
                try clear c28b0
                try clear c28b1
                try clear hx260_0
                try clear hx261_0
                try clear hx262_0
                try clear hx262_1
                try clear hx262_2
                try clear hx262_3
                try clear hx270_0
                try clear hx271_0
                try clear hx272_0
                try clear hx272_1
                try clear hx272_2
                try clear hx272_3
                try clear hx276_0
                try clear hx277_0
                try clear p2
                try clear p260
                try clear p261
                try clear p262
                try clear p270
                try clear p271
                try clear p272
                try clear p276
                try clear p277
                try clear p6
                try clear q2
                try clear q260
                try clear q261
                try clear q262
                try clear q270
                try clear q271
                try clear q272
                try clear q276
                try clear q277
                obtain ⟨kq, x90_24, rfl, HA, HJ24, HO_9, HB⟩ := hcut
                cases kq with
                | zero => exact absurd HA.out (by simp [sidingref19_Choose.j4])
                | succ kj24 =>
                 have H := HA.out
                 clear HA
                 simp only [sidingref19_Choose.j4] at H
                 by_cases c29 : x90_24 = true
                 ·subst c29
                  have H1 : (if 0 ≤ x11_2 then (if x11_2 < (l0.length : Int) then (if x9_18.length + ((rd_T43 l0 x11_2).f3).length < 8796093022208 then ((some (x9_18 ++ ((rd_T43 l0 x11_2).f3) : List ByteArray)).bind fun y279 => (if 0 ≤ x10_2 then (if x10_2 < (l1.length : Int) then (if (rd l1 x10_2) = 3 then (if y279.length + ((rd_T43 l0 x11_2).f1).length < 8796093022208 then (sidingref19_Choose.l1 kj24 l0 l1 (y279 ++ ((rd_T43 l0 x11_2).f1)) (wrap64 (x10_2 + 1)) (wrap64 (x11_2 + 1))) else (none)) else (sidingref19_Choose.l1 kj24 l0 l1 y279 (wrap64 (x10_2 + 1)) (wrap64 (x11_2 + 1)))) else (none)) else (none))) else (none)) else (none)) else (none)) = some (r1, r2) := by rw [if_pos rfl] at H; exact H
                  clear H
                  have H := H1
                  clear H1
                  by_cases c30 : 0 ≤ x11_2
                  ·rw [if_pos c30] at H
                   have c30b0 : decide (0 ≤ x11_2) = true := decide_eq_true c30
                   clear c30
                   by_cases c31 : x11_2 < (l0.length : Int)
                   ·rw [if_pos c31] at H
                    have c31b0 : decide (x11_2 < (l0.length : Int)) = true := decide_eq_true c31
                    clear c31
                    by_cases c32 : x9_18.length + ((rd_T43 l0 x11_2).f3).length < 8796093022208
                    ·rw [if_pos c32] at H
                     have LMc32 := Aside0.mk c32
                     clear c32
                     obtain ⟨y279, hy279⟩ : ∃ y_ : List ByteArray, y_ = (x9_18 ++ ((rd_T43 l0 x11_2).f3)) := ⟨_, rfl⟩
                     replace H : (if 0 ≤ x10_2 then (if x10_2 < (l1.length : Int) then (if (rd l1 x10_2) = 3 then (if y279.length + ((rd_T43 l0 x11_2).f1).length < 8796093022208 then (sidingref19_Choose.l1 kj24 l0 l1 (y279 ++ ((rd_T43 l0 x11_2).f1)) (wrap64 (x10_2 + 1)) (wrap64 (x11_2 + 1))) else (none)) else (sidingref19_Choose.l1 kj24 l0 l1 y279 (wrap64 (x10_2 + 1)) (wrap64 (x11_2 + 1)))) else (none)) else (none)) = some (r1, r2) := by first | (rw [hy279]; with_reducible exact H) | (have H2_ := (Option.bind_some _ _).symm.trans H; rw [hy279]; with_reducible exact H2_) | (have H2_ := (Option.bind_some _ _).symm.trans H; with_reducible exact H2_) | with_reducible exact H | (rw [hy279]; exact H) | exact H
                     have Ny279 := Aside0.mk hy279
                     clear hy279
                     by_cases c33 : 0 ≤ x10_2
                     ·rw [if_pos c33] at H
                      have c33b0 : decide (0 ≤ x10_2) = true := decide_eq_true c33
                      clear c33
                      by_cases c34 : x10_2 < (l1.length : Int)
                      ·rw [if_pos c34] at H
                       have c34b0 : decide (x10_2 < (l1.length : Int)) = true := decide_eq_true c34
                       clear c34
                       by_cases c35 : (rd l1 x10_2) = 3
                       ·rw [if_pos c35] at H
                        have c35b0 : ((rd l1 x10_2) == 3) = true := beq_iff_eq.mpr c35
                        have c35b1 : ((rd l1 x10_2) != 3) = false := bne_eq_false_iff_eq.mpr c35
                        clear c35
                        by_cases c36 : y279.length + ((rd_T43 l0 x11_2).f1).length < 8796093022208
                        ·rw [if_pos c36] at H
                         have LMc36 := Aside0.mk c36
                         clear c36
                         obtain ⟨y284, hy284⟩ : ∃ y_ : List ByteArray, y_ = (y279 ++ ((rd_T43 l0 x11_2).f1)) := ⟨_, rfl⟩
                         replace H : (sidingref19_Choose.l1 kj24 l0 l1 y284 (wrap64 (x10_2 + 1)) (wrap64 (x11_2 + 1))) = some (r1, r2) := by first | (rw [hy284]; with_reducible exact H) | (have H2_ := (Option.bind_some _ _).symm.trans H; rw [hy284]; with_reducible exact H2_) | (have H2_ := (Option.bind_some _ _).symm.trans H; with_reducible exact H2_) | with_reducible exact H | (rw [hy284]; exact H) | exact H
                         have Ny284 := Aside0.mk hy284
                         clear hy284
                         have H' := Aside0.mk H
                         clear H
                         have p278 : 0 ≤ (x11_2 : Int) := of_decide_eq_true (by first | (with_reducible assumption) | assumption)
                         have q278 : x11_2 < (l0.length : Int) := of_decide_eq_true (by first | (with_reducible assumption) | assumption)
                         obtain ⟨ad278, A278_1, c278_1, A278_2, c278_2, A278_3, c278_3, e278, hx278_0, hx278_1, hx278_2, hx278_3, hl278_1, hi278_1, hl278_2, hi278_2, hl278_3, hi278_3⟩ := at_T43 HR0.out x11_2 p278 q278
                         obtain rfl : ad262 = ad278 := (by injection e278)
                         replace hx278_0 := (HB.out.cell (World.block_lt_of_cell? w _ hx278_0)).trans hx278_0
                         replace hx278_1 := (HB.out.cell (World.block_lt_of_cell? w _ hx278_1)).trans hx278_1
                         replace hx278_2 := (HB.out.cell (World.block_lt_of_cell? w _ hx278_2)).trans hx278_2
                         replace hx278_3 := (HB.out.cell (World.block_lt_of_cell? w _ hx278_3)).trans hx278_3
                         have HR278_1 := Aside0.mk hi278_1
                         have HC278_1 := Aside0.mk hl278_1
                         clear hi278_1 hl278_1
                         have HR278_2 := Aside0.mk hi278_2
                         have HC278_2 := Aside0.mk hl278_2
                         clear hi278_2 hl278_2
                         have HR278_3 := Aside0.mk hi278_3
                         have HC278_3 := Aside0.mk hl278_3
                         clear hi278_3 hl278_3
                         replace p278 := eq_true p278
                         replace q278 := eq_true q278
                         go_wp2_with (first | ((with_reducible refine gate_builtin (b := .append) (xs := #[.tmp 91, .tmp 96]) rfl ?_); at_builtin; refine Kd.R_append_rows Kd.string (w0 := w) w.heap.size rfl (.tmp 91) (.tmp 96) 23 9 (.string ⟨#[]⟩) 16 rfl Tryd.underlying23 info9 rfl (by decide) (by omega) u9 x9_18 ((rd_T43 l0 x11_2).f3) _ _ _ (fun _ => True) (fun _ => False) rfl rfl ?aO ?aR (fun _ _ h => h) (fun _ h => h.elim) ?aF ?aB ?aS ?aL ?_; (case aR => repeat (first | exact (Kd.C_below HR278_3.out HB.out) | (with_reducible refine Kd.C_alloc ?_ _) | (with_reducible refine Kd.C_drewN ?_ _) | (with_reducible refine Kd.C_drew ?_))); (case aB => exact (by repeat (first | (with_reducible first | exact HB.out | apply below_alloc | apply pw_below_drewN | apply below_drew1) | exact HB.out))); (case aF => exact (fun _ _ => trivial)); (case aO => exact (by (with_reducible repeat (first | apply Kd.R_alloc | apply Kd.R_drewN | apply Kd.R_drew)); exact HO_9.out)); (case aS => exact (below_size (by repeat (first | (with_reducible first | exact HB.out | apply below_alloc | apply pw_below_drewN | apply below_drew1) | exact HB.out)))); (case aL => have := LMc32.out; omega); intro v280 w37 ho hb hg hat; rw [← Ny279.out] at ho; have n0_ := Aside0.mk (hb); have n1_ := Aside0.mk (ho); clear HB; clear HO_9; have HB := n0_; have HO281 := n1_; clear n0_ n1_; clear ho hb hg hat; have p282 : 0 ≤ (x10_2 : Int) := of_decide_eq_true (by first | (with_reducible assumption) | assumption); have q282 : x10_2 < (l1.length : Int) := of_decide_eq_true (by first | (with_reducible assumption) | assumption); obtain ⟨ad282, e282, hx282_0⟩ := Kd.at_int HR1.out x10_2 p282 q282; cases e282; replace hx282_0 := (HB.out.cell (World.block_lt_of_cell? w _ hx282_0)).trans hx282_0; replace p282 := eq_true p282; replace q282 := eq_true q282; have p283 : 0 ≤ (x11_2 : Int) := of_decide_eq_true (by first | (with_reducible assumption) | assumption); have q283 : x11_2 < (l0.length : Int) := of_decide_eq_true (by first | (with_reducible assumption) | assumption); obtain ⟨ad283, A283_1, c283_1, A283_2, c283_2, A283_3, c283_3, e283, hx283_0, hx283_1, hx283_2, hx283_3, hl283_1, hi283_1, hl283_2, hi283_2, hl283_3, hi283_3⟩ := at_T43 HR0.out x11_2 p283 q283; obtain rfl : ad262 = ad283 := (by injection e283); replace hx283_0 := (HB.out.cell (World.block_lt_of_cell? w _ hx283_0)).trans hx283_0; replace hx283_1 := (HB.out.cell (World.block_lt_of_cell? w _ hx283_1)).trans hx283_1; replace hx283_2 := (HB.out.cell (World.block_lt_of_cell? w _ hx283_2)).trans hx283_2; replace hx283_3 := (HB.out.cell (World.block_lt_of_cell? w _ hx283_3)).trans hx283_3; have HR283_1 := Aside0.mk hi283_1; have HC283_1 := Aside0.mk hl283_1; clear hi283_1 hl283_1; have HR283_2 := Aside0.mk hi283_2; have HC283_2 := Aside0.mk hl283_2; clear hi283_2 hl283_2; have HR283_3 := Aside0.mk hi283_3; have HC283_3 := Aside0.mk hl283_3; clear hi283_3 hl283_3; replace p283 := eq_true p283; replace q283 := eq_true q283) | ((with_reducible refine gate_builtin (b := .append) (xs := #[.tmp 103, .tmp 108]) rfl ?_); at_builtin; refine Kd.R_append_rows Kd.string (w0 := w) w.heap.size rfl (.tmp 103) (.tmp 108) 23 9 (.string ⟨#[]⟩) 16 rfl Tryd.underlying23 info9 rfl (by decide) (by omega) v280 y279 ((rd_T43 l0 x11_2).f1) _ _ _ (fun _ => True) (fun _ => False) rfl rfl ?aO ?aR (fun _ _ h => h) (fun _ h => h.elim) ?aF ?aB ?aS ?aL ?_; (case aR => repeat (first | exact (Kd.C_below HR283_1.out HB.out) | (with_reducible refine Kd.C_alloc ?_ _) | (with_reducible refine Kd.C_drewN ?_ _) | (with_reducible refine Kd.C_drew ?_))); (case aB => exact (by repeat (first | (with_reducible first | exact HB.out | apply below_alloc | apply pw_below_drewN | apply below_drew1) | exact HB.out))); (case aF => exact (fun _ _ => trivial)); (case aO => exact (by (with_reducible repeat (first | apply Kd.R_alloc | apply Kd.R_drewN | apply Kd.R_drew)); exact HO281.out)); (case aS => exact (below_size (by repeat (first | (with_reducible first | exact HB.out | apply below_alloc | apply pw_below_drewN | apply below_drew1) | exact HB.out)))); (case aL => have := LMc36.out; omega); intro v285 w38 ho hb hg hat; rw [← Ny284.out] at ho; have n0_ := Aside0.mk (hb); have n1_ := Aside0.mk (ho); clear HB; clear HO281; have HB := n0_; have HO286 := n1_; clear n0_ n1_; clear ho hb hg hat))
                         go_roundg kj24
                         case measure => have := HK1.out; have := HK2.out; have := HJ14.out; have := HJ18.out; have := HJ24.out; omega
                         case rel => exact ⟨(y284), (wrap64 (x10_2 + 1)), (wrap64 (x11_2 + 1)), (by first | rfl | (simp; done) | (simp [*]; done)), (by first | rfl | (simp; done) | (simp [*]; done)), H', ⟨by have := HK1.out; have := HK2.out; have := HJ14.out; have := HJ18.out; have := HJ24.out; omega⟩, ⟨by (with_reducible repeat (first | apply Kd.R_alloc | apply Kd.R_drewN | apply Kd.R_drew)); exact HO286.out⟩, ⟨by repeat (first | (with_reducible first | exact HB.out | apply below_alloc | apply pw_below_drewN | apply below_drew1) | exact HB.out)⟩⟩
                        ·rw [if_neg c36] at H
                         exact absurd H (by simp)
                       ·rw [if_neg c35] at H
                        have c35b0 : ((rd l1 x10_2) == 3) = false := beq_eq_false_iff_ne.mpr c35
                        have c35b1 : ((rd l1 x10_2) != 3) = true := bne_iff_ne.mpr c35
                        have H' := Aside0.mk H
                        clear H
                        have p278 : 0 ≤ (x11_2 : Int) := of_decide_eq_true (by first | (with_reducible assumption) | assumption)
                        have q278 : x11_2 < (l0.length : Int) := of_decide_eq_true (by first | (with_reducible assumption) | assumption)
                        obtain ⟨ad278, A278_1, c278_1, A278_2, c278_2, A278_3, c278_3, e278, hx278_0, hx278_1, hx278_2, hx278_3, hl278_1, hi278_1, hl278_2, hi278_2, hl278_3, hi278_3⟩ := at_T43 HR0.out x11_2 p278 q278
                        obtain rfl : ad262 = ad278 := (by injection e278)
                        replace hx278_0 := (HB.out.cell (World.block_lt_of_cell? w _ hx278_0)).trans hx278_0
                        replace hx278_1 := (HB.out.cell (World.block_lt_of_cell? w _ hx278_1)).trans hx278_1
                        replace hx278_2 := (HB.out.cell (World.block_lt_of_cell? w _ hx278_2)).trans hx278_2
                        replace hx278_3 := (HB.out.cell (World.block_lt_of_cell? w _ hx278_3)).trans hx278_3
                        have HR278_1 := Aside0.mk hi278_1
                        have HC278_1 := Aside0.mk hl278_1
                        clear hi278_1 hl278_1
                        have HR278_2 := Aside0.mk hi278_2
                        have HC278_2 := Aside0.mk hl278_2
                        clear hi278_2 hl278_2
                        have HR278_3 := Aside0.mk hi278_3
                        have HC278_3 := Aside0.mk hl278_3
                        clear hi278_3 hl278_3
                        replace p278 := eq_true p278
                        replace q278 := eq_true q278
                        go_wp2_with (first | ((with_reducible refine gate_builtin (b := .append) (xs := #[.tmp 91, .tmp 96]) rfl ?_); at_builtin; refine Kd.R_append_rows Kd.string (w0 := w) w.heap.size rfl (.tmp 91) (.tmp 96) 23 9 (.string ⟨#[]⟩) 16 rfl Tryd.underlying23 info9 rfl (by decide) (by omega) u9 x9_18 ((rd_T43 l0 x11_2).f3) _ _ _ (fun _ => True) (fun _ => False) rfl rfl ?aO ?aR (fun _ _ h => h) (fun _ h => h.elim) ?aF ?aB ?aS ?aL ?_; (case aR => repeat (first | exact (Kd.C_below HR278_3.out HB.out) | (with_reducible refine Kd.C_alloc ?_ _) | (with_reducible refine Kd.C_drewN ?_ _) | (with_reducible refine Kd.C_drew ?_))); (case aB => exact (by repeat (first | (with_reducible first | exact HB.out | apply below_alloc | apply pw_below_drewN | apply below_drew1) | exact HB.out))); (case aF => exact (fun _ _ => trivial)); (case aO => exact (by (with_reducible repeat (first | apply Kd.R_alloc | apply Kd.R_drewN | apply Kd.R_drew)); exact HO_9.out)); (case aS => exact (below_size (by repeat (first | (with_reducible first | exact HB.out | apply below_alloc | apply pw_below_drewN | apply below_drew1) | exact HB.out)))); (case aL => have := LMc32.out; omega); intro v280 w39 ho hb hg hat; rw [← Ny279.out] at ho; have n0_ := Aside0.mk (hb); have n1_ := Aside0.mk (ho); clear HB; clear HO_9; have HB := n0_; have HO281 := n1_; clear n0_ n1_; clear ho hb hg hat; have p282 : 0 ≤ (x10_2 : Int) := of_decide_eq_true (by first | (with_reducible assumption) | assumption); have q282 : x10_2 < (l1.length : Int) := of_decide_eq_true (by first | (with_reducible assumption) | assumption); obtain ⟨ad282, e282, hx282_0⟩ := Kd.at_int HR1.out x10_2 p282 q282; cases e282; replace hx282_0 := (HB.out.cell (World.block_lt_of_cell? w _ hx282_0)).trans hx282_0; replace p282 := eq_true p282; replace q282 := eq_true q282))
                        go_roundg kj24
                        case measure => have := HK1.out; have := HK2.out; have := HJ14.out; have := HJ18.out; have := HJ24.out; omega
                        case rel => exact ⟨(y279), (wrap64 (x10_2 + 1)), (wrap64 (x11_2 + 1)), (by first | rfl | (simp; done) | (simp [*]; done)), (by first | rfl | (simp; done) | (simp [*]; done)), H', ⟨by have := HK1.out; have := HK2.out; have := HJ14.out; have := HJ18.out; have := HJ24.out; omega⟩, ⟨by (with_reducible repeat (first | apply Kd.R_alloc | apply Kd.R_drewN | apply Kd.R_drew)); exact HO281.out⟩, ⟨by repeat (first | (with_reducible first | exact HB.out | apply below_alloc | apply pw_below_drewN | apply below_drew1) | exact HB.out)⟩⟩
                      ·rw [if_neg c34] at H
                       exact absurd H (by simp)
                     ·rw [if_neg c33] at H
                      exact absurd H (by simp)
                    ·rw [if_neg c32] at H
                     exact absurd H (by simp)
                   ·rw [if_neg c31] at H
                    exact absurd H (by simp)
                  ·rw [if_neg c30] at H
                   exact absurd H (by simp)
                 ·replace c29 := Bool.eq_false_iff.mpr c29
                  subst c29
                  have H1 : (if 0 ≤ x10_2 then (if x10_2 < (l1.length : Int) then (if (rd l1 x10_2) = 3 then (if 0 ≤ x11_2 then (if x11_2 < (l0.length : Int) then (if x9_18.length + ((rd_T43 l0 x11_2).f1).length < 8796093022208 then (sidingref19_Choose.l1 kj24 l0 l1 (x9_18 ++ ((rd_T43 l0 x11_2).f1)) (wrap64 (x10_2 + 1)) (wrap64 (x11_2 + 1))) else (none)) else (none)) else (none)) else (sidingref19_Choose.l1 kj24 l0 l1 x9_18 (wrap64 (x10_2 + 1)) (wrap64 (x11_2 + 1)))) else (none)) else (none)) = some (r1, r2) := by rw [if_neg (show ¬ (false = true) by decide)] at H; exact H
                  clear H
                  have H := H1
                  clear H1
                  by_cases c40 : 0 ≤ x10_2
                  ·rw [if_pos c40] at H
                   have c40b0 : decide (0 ≤ x10_2) = true := decide_eq_true c40
                   clear c40
                   by_cases c41 : x10_2 < (l1.length : Int)
                   ·rw [if_pos c41] at H
                    have c41b0 : decide (x10_2 < (l1.length : Int)) = true := decide_eq_true c41
                    clear c41
                    by_cases c42 : (rd l1 x10_2) = 3
                    ·rw [if_pos c42] at H
                     have c42b0 : ((rd l1 x10_2) == 3) = true := beq_iff_eq.mpr c42
                     have c42b1 : ((rd l1 x10_2) != 3) = false := bne_eq_false_iff_eq.mpr c42
                     clear c42
                     by_cases c43 : 0 ≤ x11_2
                     ·rw [if_pos c43] at H
                      have c43b0 : decide (0 ≤ x11_2) = true := decide_eq_true c43
                      clear c43
                      by_cases c44 : x11_2 < (l0.length : Int)
                      ·rw [if_pos c44] at H
                       have c44b0 : decide (x11_2 < (l0.length : Int)) = true := decide_eq_true c44
                       clear c44
                       by_cases c45 : x9_18.length + ((rd_T43 l0 x11_2).f1).length < 8796093022208
                       ·rw [if_pos c45] at H
                        have LMc45 := Aside0.mk c45
                        clear c45
                        obtain ⟨y289, hy289⟩ : ∃ y_ : List ByteArray, y_ = (x9_18 ++ ((rd_T43 l0 x11_2).f1)) := ⟨_, rfl⟩
                        replace H : (sidingref19_Choose.l1 kj24 l0 l1 y289 (wrap64 (x10_2 + 1)) (wrap64 (x11_2 + 1))) = some (r1, r2) := by first | (rw [hy289]; with_reducible exact H) | (have H2_ := (Option.bind_some _ _).symm.trans H; rw [hy289]; with_reducible exact H2_) | (have H2_ := (Option.bind_some _ _).symm.trans H; with_reducible exact H2_) | with_reducible exact H | (rw [hy289]; exact H) | exact H
                        have Ny289 := Aside0.mk hy289
                        clear hy289
                        have H' := Aside0.mk H
                        clear H
                        have p287 : 0 ≤ (x10_2 : Int) := of_decide_eq_true (by first | (with_reducible assumption) | assumption)
                        have q287 : x10_2 < (l1.length : Int) := of_decide_eq_true (by first | (with_reducible assumption) | assumption)
                        obtain ⟨ad287, e287, hx287_0⟩ := Kd.at_int HR1.out x10_2 p287 q287
                        cases e287
                        replace hx287_0 := (HB.out.cell (World.block_lt_of_cell? w _ hx287_0)).trans hx287_0
                        replace p287 := eq_true p287
                        replace q287 := eq_true q287
                        have p288 : 0 ≤ (x11_2 : Int) := of_decide_eq_true (by first | (with_reducible assumption) | assumption)
                        have q288 : x11_2 < (l0.length : Int) := of_decide_eq_true (by first | (with_reducible assumption) | assumption)
                        obtain ⟨ad288, A288_1, c288_1, A288_2, c288_2, A288_3, c288_3, e288, hx288_0, hx288_1, hx288_2, hx288_3, hl288_1, hi288_1, hl288_2, hi288_2, hl288_3, hi288_3⟩ := at_T43 HR0.out x11_2 p288 q288
                        obtain rfl : ad262 = ad288 := (by injection e288)
                        replace hx288_0 := (HB.out.cell (World.block_lt_of_cell? w _ hx288_0)).trans hx288_0
                        replace hx288_1 := (HB.out.cell (World.block_lt_of_cell? w _ hx288_1)).trans hx288_1
                        replace hx288_2 := (HB.out.cell (World.block_lt_of_cell? w _ hx288_2)).trans hx288_2
                        replace hx288_3 := (HB.out.cell (World.block_lt_of_cell? w _ hx288_3)).trans hx288_3
                        have HR288_1 := Aside0.mk hi288_1
                        have HC288_1 := Aside0.mk hl288_1
                        clear hi288_1 hl288_1
                        have HR288_2 := Aside0.mk hi288_2
                        have HC288_2 := Aside0.mk hl288_2
                        clear hi288_2 hl288_2
                        have HR288_3 := Aside0.mk hi288_3
                        have HC288_3 := Aside0.mk hl288_3
                        clear hi288_3 hl288_3
                        replace p288 := eq_true p288
                        replace q288 := eq_true q288
                        go_wp2_with (first | ((with_reducible refine gate_builtin (b := .append) (xs := #[.tmp 103, .tmp 108]) rfl ?_); at_builtin; refine Kd.R_append_rows Kd.string (w0 := w) w.heap.size rfl (.tmp 103) (.tmp 108) 23 9 (.string ⟨#[]⟩) 16 rfl Tryd.underlying23 info9 rfl (by decide) (by omega) u9 x9_18 ((rd_T43 l0 x11_2).f1) _ _ _ (fun _ => True) (fun _ => False) rfl rfl ?aO ?aR (fun _ _ h => h) (fun _ h => h.elim) ?aF ?aB ?aS ?aL ?_; (case aR => repeat (first | exact (Kd.C_below HR288_1.out HB.out) | (with_reducible refine Kd.C_alloc ?_ _) | (with_reducible refine Kd.C_drewN ?_ _) | (with_reducible refine Kd.C_drew ?_))); (case aB => exact (by repeat (first | (with_reducible first | exact HB.out | apply below_alloc | apply pw_below_drewN | apply below_drew1) | exact HB.out))); (case aF => exact (fun _ _ => trivial)); (case aO => exact (by (with_reducible repeat (first | apply Kd.R_alloc | apply Kd.R_drewN | apply Kd.R_drew)); exact HO_9.out)); (case aS => exact (below_size (by repeat (first | (with_reducible first | exact HB.out | apply below_alloc | apply pw_below_drewN | apply below_drew1) | exact HB.out)))); (case aL => have := LMc45.out; omega); intro v290 w46 ho hb hg hat; rw [← Ny289.out] at ho; have n0_ := Aside0.mk (hb); have n1_ := Aside0.mk (ho); clear HB; clear HO_9; have HB := n0_; have HO291 := n1_; clear n0_ n1_; clear ho hb hg hat))
                        go_roundg kj24
                        case measure => have := HK1.out; have := HK2.out; have := HJ14.out; have := HJ18.out; have := HJ24.out; omega
                        case rel => exact ⟨(y289), (wrap64 (x10_2 + 1)), (wrap64 (x11_2 + 1)), (by first | rfl | (simp; done) | (simp [*]; done)), (by first | rfl | (simp; done) | (simp [*]; done)), H', ⟨by have := HK1.out; have := HK2.out; have := HJ14.out; have := HJ18.out; have := HJ24.out; omega⟩, ⟨by (with_reducible repeat (first | apply Kd.R_alloc | apply Kd.R_drewN | apply Kd.R_drew)); exact HO291.out⟩, ⟨by repeat (first | (with_reducible first | exact HB.out | apply below_alloc | apply pw_below_drewN | apply below_drew1) | exact HB.out)⟩⟩
                       ·rw [if_neg c45] at H
                        exact absurd H (by simp)
                      ·rw [if_neg c44] at H
                       exact absurd H (by simp)
                     ·rw [if_neg c43] at H
                      exact absurd H (by simp)
                    ·rw [if_neg c42] at H
                     have c42b0 : ((rd l1 x10_2) == 3) = false := beq_eq_false_iff_ne.mpr c42
                     have c42b1 : ((rd l1 x10_2) != 3) = true := bne_iff_ne.mpr c42
                     have H' := Aside0.mk H
                     clear H
                     have p287 : 0 ≤ (x10_2 : Int) := of_decide_eq_true (by first | (with_reducible assumption) | assumption)
                     have q287 : x10_2 < (l1.length : Int) := of_decide_eq_true (by first | (with_reducible assumption) | assumption)
                     obtain ⟨ad287, e287, hx287_0⟩ := Kd.at_int HR1.out x10_2 p287 q287
                     cases e287
                     replace hx287_0 := (HB.out.cell (World.block_lt_of_cell? w _ hx287_0)).trans hx287_0
                     replace p287 := eq_true p287
                     replace q287 := eq_true q287
                     go_wp2
                     go_roundg kj24
                     case measure => have := HK1.out; have := HK2.out; have := HJ14.out; have := HJ18.out; have := HJ24.out; omega
                     case rel => exact ⟨(x9_18), (wrap64 (x10_2 + 1)), (wrap64 (x11_2 + 1)), (by first | rfl | (simp; done) | (simp [*]; done)), (by first | rfl | (simp; done) | (simp [*]; done)), H', ⟨by have := HK1.out; have := HK2.out; have := HJ14.out; have := HJ18.out; have := HJ24.out; omega⟩, ⟨by (with_reducible repeat (first | apply Kd.R_alloc | apply Kd.R_drewN | apply Kd.R_drew)); exact HO_9.out⟩, ⟨by repeat (first | (with_reducible first | exact HB.out | apply below_alloc | apply pw_below_drewN | apply below_drew1) | exact HB.out)⟩⟩
                   ·rw [if_neg c41] at H
                    exact absurd H (by simp)
                  ·rw [if_neg c40] at H
                   exact absurd H (by simp)
          ·rw [if_neg c14] at H
           have c14b0 : (((rd_T43 l0 x11_2).f0) == 5) = false := beq_eq_false_iff_ne.mpr c14
           have c14b1 : (((rd_T43 l0 x11_2).f0) != 5) = true := bne_iff_ne.mpr c14
           replace H := Option.bind_eq_some_iff.mp H
           obtain ⟨t264, A470, H⟩ := H
           replace H : (if x9_2.length + t264.length < 8796093022208 then (sidingref19_Choose.l1 k2 l0 l1 (x9_2 ++ t264) x10_2 (wrap64 (x11_2 + 1))) else (none)) = some (r1, r2) := H
           have A47 := Aside0.mk A470
           clear A470
           by_cases c48 : x9_2.length + t264.length < 8796093022208
           ·rw [if_pos c48] at H
            have LMc48 := Aside0.mk c48
            clear c48
            obtain ⟨y267, hy267⟩ : ∃ y_ : List ByteArray, y_ = (x9_2 ++ t264) := ⟨_, rfl⟩
            replace H : (sidingref19_Choose.l1 k2 l0 l1 y267 x10_2 (wrap64 (x11_2 + 1))) = some (r1, r2) := by first | (rw [hy267]; with_reducible exact H) | (have H2_ := (Option.bind_some _ _).symm.trans H; rw [hy267]; with_reducible exact H2_) | (have H2_ := (Option.bind_some _ _).symm.trans H; with_reducible exact H2_) | with_reducible exact H | (rw [hy267]; exact H) | exact H
            have Ny267 := Aside0.mk hy267
            clear hy267
            have H' := Aside0.mk H
            clear H
            have p262 : 0 ≤ (x11_2 : Int) := of_decide_eq_true (by first | (with_reducible assumption) | assumption)
            have q262 : x11_2 < (l0.length : Int) := of_decide_eq_true (by first | (with_reducible assumption) | assumption)
            obtain ⟨ad262, A262_1, c262_1, A262_2, c262_2, A262_3, c262_3, e262, hx262_0, hx262_1, hx262_2, hx262_3, hl262_1, hi262_1, hl262_2, hi262_2, hl262_3, hi262_3⟩ := at_T43 HR0.out x11_2 p262 q262
            cases e262
            replace hx262_0 := (HB.out.cell (World.block_lt_of_cell? w _ hx262_0)).trans hx262_0
            replace hx262_1 := (HB.out.cell (World.block_lt_of_cell? w _ hx262_1)).trans hx262_1
            replace hx262_2 := (HB.out.cell (World.block_lt_of_cell? w _ hx262_2)).trans hx262_2
            replace hx262_3 := (HB.out.cell (World.block_lt_of_cell? w _ hx262_3)).trans hx262_3
            have HR262_1 := Aside0.mk hi262_1
            have HC262_1 := Aside0.mk hl262_1
            clear hi262_1 hl262_1
            have HR262_2 := Aside0.mk hi262_2
            have HC262_2 := Aside0.mk hl262_2
            clear hi262_2 hl262_2
            have HR262_3 := Aside0.mk hi262_3
            have HC262_3 := Aside0.mk hl262_3
            clear hi262_3 hl262_3
            replace p262 := eq_true p262
            replace q262 := eq_true q262
            have p263 : 0 ≤ (x11_2 : Int) := of_decide_eq_true (by first | (with_reducible assumption) | assumption)
            have q263 : x11_2 < (l0.length : Int) := of_decide_eq_true (by first | (with_reducible assumption) | assumption)
            obtain ⟨ad263, A263_1, c263_1, A263_2, c263_2, A263_3, c263_3, e263, hx263_0, hx263_1, hx263_2, hx263_3, hl263_1, hi263_1, hl263_2, hi263_2, hl263_3, hi263_3⟩ := at_T43 HR0.out x11_2 p263 q263
            obtain rfl : ad262 = ad263 := (by injection e263)
            replace hx263_0 := (HB.out.cell (World.block_lt_of_cell? w _ hx263_0)).trans hx263_0
            replace hx263_1 := (HB.out.cell (World.block_lt_of_cell? w _ hx263_1)).trans hx263_1
            replace hx263_2 := (HB.out.cell (World.block_lt_of_cell? w _ hx263_2)).trans hx263_2
            replace hx263_3 := (HB.out.cell (World.block_lt_of_cell? w _ hx263_3)).trans hx263_3
            have HR263_1 := Aside0.mk hi263_1
            have HC263_1 := Aside0.mk hl263_1
            clear hi263_1 hl263_1
            have HR263_2 := Aside0.mk hi263_2
            have HC263_2 := Aside0.mk hl263_2
            clear hi263_2 hl263_2
            have HR263_3 := Aside0.mk hi263_3
            have HC263_3 := Aside0.mk hl263_3
            clear hi263_3 hl263_3
            replace p263 := eq_true p263
            replace q263 := eq_true q263
            have ea_ := Option.some.inj (hx262_1.symm.trans hx263_1)
            injection ea_ with ea_ en_ ec_
            subst ea_
            subst ec_
            clear en_
            have ea_ := Option.some.inj (hx262_2.symm.trans hx263_2)
            injection ea_ with ea_ en_ ec_
            subst ea_
            subst ec_
            clear en_
            have ea_ := Option.some.inj (hx262_3.symm.trans hx263_3)
            injection ea_ with ea_ en_ ec_
            subst ea_
            subst ec_
            clear en_
            go_wp2_with (first | ((with_reducible refine gate_callee (f := 24) rfl ?_); refine goesL_ (some 58) rfl rfl Tryd.func24 (by kernel_rfl) rfl #[.agg #[.int .u8 ((rd_T43 l0 x11_2).f0), .slice A262_1 ((rd_T43 l0 x11_2).f1).length c262_1, .slice A262_2 ((rd_T43 l0 x11_2).f2).length c262_2, .slice A262_3 ((rd_T43 l0 x11_2).f3).length c262_3]] rfl (by (try simp only [List.map_toArray, List.map_cons, List.map_nil]); first | done | rfl | (simp only [List.length_drop, List.length_take]; rfl)) ?_; (with_reducible refine (sidingref19_Lines.calls ((rd_T43 l0 x11_2).f0) _ _ ((rd_T43 l0 x11_2).f1) (fun k_ => k_ < w.heap.size) _ _ ((rd_T43 l0 x11_2).f2) (fun k_ => k_ < w.heap.size) _ _ ((rd_T43 l0 x11_2).f3) t264 _ ?side1 ?side2 ?side3 ?side4 A47.out).mono ?_); (case side1 => repeat (first | exact (Kd.C_below HR263_1.out HB.out) | (with_reducible refine Kd.C_alloc ?_ _) | (with_reducible refine Kd.C_drewN ?_ _) | (with_reducible refine Kd.C_drew ?_))); (case side2 => exact HC263_1.out); (case side3 => exact Kd.V_mk HC263_2.out (Kd.F_below (Kd.C_F Kd.heap_string HR263_2.out) (by repeat (first | (with_reducible first | exact HB.out | apply below_alloc | apply pw_below_drewN | apply below_drew1) | exact HB.out)))); (case side4 => exact Kd.V_mk HC263_3.out (Kd.F_below (Kd.C_F Kd.heap_string HR263_3.out) (by repeat (first | (with_reducible first | exact HB.out | apply below_alloc | apply pw_below_drewN | apply below_drew1) | exact HB.out)))); rintro e w49 ⟨v265, rfl, ho0, hb⟩; refine ⟨_, rfl, ?_⟩; have n0_ := Aside0.mk (Kd.R_below (by (with_reducible repeat (first | apply Kd.R_alloc | apply Kd.R_drewN | apply Kd.R_drew)); exact HO_9.out) hb); have n1_ := Aside0.mk (Kd.V_lower (Kd.V_mono (ok' := fun k_ => some k_ ≠ (u9 : Value).ownBlock) ho0 (fun k_ hk_ => Or.elim hk_ (fun hs_ => Or.elim hs_ (fun hs_ => fun e_ => Nat.not_le.2 hs_ (Kd.R_base HO_9.out k_ e_.symm)) (fun hs_ => fun e_ => Nat.not_le.2 hs_ (Kd.R_base HO_9.out k_ e_.symm))) (fun hn_ => (Kd.fresh' (Kd.R_lt (by (with_reducible repeat (first | apply Kd.R_alloc | apply Kd.R_drewN | apply Kd.R_drew)); exact HO_9.out)) k_ hn_)))) (below_size (by repeat (first | (with_reducible first | exact HB.out | apply below_alloc | apply pw_below_drewN | apply below_drew1) | exact HB.out)))); have n2_ := Aside0.mk (below_step (by repeat (first | (with_reducible first | exact HB.out | apply below_alloc | apply pw_below_drewN | apply below_drew1) | exact HB.out)) hb); clear HO_9; clear HB; have HO_9 := n0_; have HO266 := n1_; have HB := n2_; clear n0_ n1_ n2_; (try clear hb); (try clear hb2); (try clear hk); (try clear hi); (try clear ho0); obtain ⟨Ao51, co51, eo51⟩ := Kd.V_slice HO266.out; subst eo51) | ((with_reducible refine gate_builtin (b := .append) (xs := #[.tmp 53, .tmp 58]) rfl ?_); at_builtin; refine Kd.R_append_rows Kd.string (w0 := w) w.heap.size rfl (.tmp 53) (.tmp 58) 23 9 (.string ⟨#[]⟩) 16 rfl Tryd.underlying23 info9 rfl (by decide) (by omega) u9 x9_2 t264 _ _ _ (fun _ => True) (fun _ => False) rfl rfl ?aO ?aR (fun _ _ h => h) (fun _ h => h.elim) ?aF ?aB ?aS ?aL ?_; (case aR => repeat (first | exact (Kd.V_reads' HO266.out).2.2 | (with_reducible refine Kd.C_alloc ?_ _) | (with_reducible refine Kd.C_drewN ?_ _) | (with_reducible refine Kd.C_drew ?_))); (case aB => exact (by repeat (first | (with_reducible first | exact HB.out | apply below_alloc | apply pw_below_drewN | apply below_drew1) | exact HB.out))); (case aF => exact (fun _ _ => trivial)); (case aO => exact (by (with_reducible repeat (first | apply Kd.R_alloc | apply Kd.R_drewN | apply Kd.R_drew)); exact HO_9.out)); (case aS => exact (below_size (by repeat (first | (with_reducible first | exact HB.out | apply below_alloc | apply pw_below_drewN | apply below_drew1) | exact HB.out)))); (case aL => have := LMc48.out; omega); intro v268 w50 ho hb hg hat; rw [← Ny267.out] at ho; have n0_ := Aside0.mk (Kd.V_afterv (ok := (fun _ => True)) (by (with_reducible repeat (first | apply Kd.V_alloc | apply Kd.V_drewN | apply Kd.V_drew)); exact Kd.V_mono HO266.out (fun _ hk => ⟨trivial, hk⟩)) hg hat); have n1_ := Aside0.mk (hb); have n2_ := Aside0.mk (ho); clear HO266; clear HB; clear HO_9; have HO266 := n0_; have HB := n1_; have HO269 := n2_; clear n0_ n1_ n2_; clear ho hb hg hat))
            go_roundg k2
            case measure => have := HK1.out; have := HK2.out; omega
            case rel => exact ⟨(y267), (x10_2), (wrap64 (x11_2 + 1)), (by first | rfl | (simp; done) | (simp [*]; done)), (by first | rfl | (simp; done) | (simp [*]; done)), H', ⟨by have := HK1.out; have := HK2.out; omega⟩, ⟨by (with_reducible repeat (first | apply Kd.R_alloc | apply Kd.R_drewN | apply Kd.R_drew)); exact HO269.out⟩, ⟨by repeat (first | (with_reducible first | exact HB.out | apply below_alloc | apply pw_below_drewN | apply below_drew1) | exact HB.out)⟩⟩
           ·rw [if_neg c48] at H
            exact absurd H (by simp)
         ·rw [if_neg c13] at H
          exact absurd H (by simp)
        ·rw [if_neg c12] at H
         have c12b0 : decide (x11_2 < (l0.length : Int)) = false := decide_eq_false c12
         clear c12
         replace H := Option.bind_eq_some_iff.mp H
         obtain ⟨t292, A520, H⟩ := H
         replace H : (if t292 = 0 then (some (x9_2, 0)) else ((sidingref13_Lines.f k2 x9_2).bind fun t293 => (some (([] : List ByteArray), t293)))) = some (r1, r2) := H
         have A52 := Aside0.mk A520
         clear A520
         by_cases c53 : t292 = 0
         ·rw [if_pos c53] at H
          have c53b0 : (t292 == 0) = true := beq_iff_eq.mpr c53
          have c53b1 : (t292 != 0) = false := bne_eq_false_iff_eq.mpr c53
          clear c53
          simp only [Option.some.injEq, Prod.mk.injEq] at H
          obtain ⟨rfl, rfl⟩ := H
          obtain ⟨Ao54, co54, eo54⟩ := Kd.R_slice HO_9.out
          subst eo54
          go_wp2_with (first | ((with_reducible refine gate_callee (f := 43) rfl ?_); refine goesL_ (some 113) rfl rfl Tryd.func43 (by kernel_rfl) rfl #[.slice Ao54 x9_2.length co54] rfl (by (try simp only [List.map_toArray, List.map_cons, List.map_nil]); first | done | rfl | (simp only [List.length_drop, List.length_take]; rfl)) ?_; (with_reducible refine (sidingref13_Lines.calls k2 _ _ x9_2 t292 _ ?side1 ?side2 A52.out).mono ?_); (case side1 => repeat (first | exact (Kd.R_reads' HO_9.out).2.2 | (with_reducible refine Kd.C_alloc ?_ _) | (with_reducible refine Kd.C_drewN ?_ _) | (with_reducible refine Kd.C_drew ?_))); (case side2 => exact (Kd.R_reads' HO_9.out).2.1); rintro e w55 ⟨rfl, hb⟩; refine ⟨_, rfl, ?_⟩; have n0_ := Aside0.mk (Kd.R_below (by (with_reducible repeat (first | apply Kd.R_alloc | apply Kd.R_drewN | apply Kd.R_drew)); exact HO_9.out) hb); have n1_ := Aside0.mk (below_step (by repeat (first | (with_reducible first | exact HB.out | apply below_alloc | apply pw_below_drewN | apply below_drew1) | exact HB.out)) hb); clear HO_9; clear HB; have HO_9 := n0_; have HB := n1_; clear n0_ n1_; (try clear hb); (try clear hb2); (try clear hk); (try clear hi)))
          go_ret2
          exact ⟨_, by first | rfl | (simp [errW_none, errW_some] <;> rfl) | (simp [*, errW_none, errW_some] <;> rfl), by (with_reducible repeat (first | apply Kd.R_alloc | apply Kd.R_drewN | apply Kd.R_drew)); exact HO_9.out, by repeat (first | (with_reducible first | exact HB.out | apply below_alloc | apply pw_below_drewN | apply below_drew1) | exact HB.out)⟩
         ·rw [if_neg c53] at H
          have c53b0 : (t292 == 0) = false := beq_eq_false_iff_ne.mpr c53
          have c53b1 : (t292 != 0) = true := bne_iff_ne.mpr c53
          replace H := Option.bind_eq_some_iff.mp H
          obtain ⟨t293, A560, H⟩ := H
          replace H : (some (([] : List ByteArray), t293)) = some (r1, r2) := H
          have A56 := Aside0.mk A560
          (try have sameA56 := (Option.some.inj (A52.out.symm.trans A56.out) : t292 = t293))
          clear A560
          simp only [Option.some.injEq, Prod.mk.injEq] at H
          obtain ⟨rfl, rfl⟩ := H
          obtain ⟨Ao57, co57, eo57⟩ := Kd.R_slice HO_9.out
          subst eo57
          go_wp2_with (first | ((with_reducible refine gate_callee (f := 43) rfl ?_); refine goesL_ (some 113) rfl rfl Tryd.func43 (by kernel_rfl) rfl #[.slice Ao57 x9_2.length co57] rfl (by (try simp only [List.map_toArray, List.map_cons, List.map_nil]); first | done | rfl | (simp only [List.length_drop, List.length_take]; rfl)) ?_; (with_reducible refine (sidingref13_Lines.calls k2 _ _ x9_2 t292 _ ?side1 ?side2 A52.out).mono ?_); (case side1 => repeat (first | exact (Kd.R_reads' HO_9.out).2.2 | (with_reducible refine Kd.C_alloc ?_ _) | (with_reducible refine Kd.C_drewN ?_ _) | (with_reducible refine Kd.C_drew ?_))); (case side2 => exact (Kd.R_reads' HO_9.out).2.1); rintro e w58 ⟨rfl, hb⟩; refine ⟨_, rfl, ?_⟩; have n0_ := Aside0.mk (Kd.R_below (by (with_reducible repeat (first | apply Kd.R_alloc | apply Kd.R_drewN | apply Kd.R_drew)); exact HO_9.out) hb); have n1_ := Aside0.mk (below_step (by repeat (first | (with_reducible first | exact HB.out | apply below_alloc | apply pw_below_drewN | apply below_drew1) | exact HB.out)) hb); clear HO_9; clear HB; have HO_9 := n0_; have HB := n1_; clear n0_ n1_; (try clear hb); (try clear hb2); (try clear hk); (try clear hi)) | ((with_reducible refine gate_callee (f := 43) rfl ?_); refine goesL_ (some 116) rfl rfl Tryd.func43 (by kernel_rfl) rfl #[.slice Ao57 x9_2.length co57] rfl (by (try simp only [List.map_toArray, List.map_cons, List.map_nil]); first | done | rfl | (simp only [List.length_drop, List.length_take]; rfl)) ?_; (with_reducible refine (sidingref13_Lines.calls k2 _ _ x9_2 t293 _ ?side1 ?side2 A56.out).mono ?_); (case side1 => repeat (first | exact (Kd.R_reads' HO_9.out).2.2 | (with_reducible refine Kd.C_alloc ?_ _) | (with_reducible refine Kd.C_drewN ?_ _) | (with_reducible refine Kd.C_drew ?_))); (case side2 => exact (Kd.R_reads' HO_9.out).2.1); rintro e w59 ⟨rfl, hb⟩; refine ⟨_, rfl, ?_⟩; have n0_ := Aside0.mk (Kd.R_below (by (with_reducible repeat (first | apply Kd.R_alloc | apply Kd.R_drewN | apply Kd.R_drew)); exact HO_9.out) hb); have n1_ := Aside0.mk (below_step (by repeat (first | (with_reducible first | exact HB.out | apply below_alloc | apply pw_below_drewN | apply below_drew1) | exact HB.out)) hb); clear HO_9; clear HB; have HO_9 := n0_; have HB := n1_; clear n0_ n1_; (try clear hb); (try clear hb2); (try clear hk); (try clear hi)))
          go_ret2
          (try rw [sameA56])
          exact ⟨_, by first | rfl | (simp [errW_none, errW_some] <;> rfl) | (simp [*, errW_none, errW_some] <;> rfl), by first | exact Kd.R_nil _ _ _ _ _ | exact Kd.N_nil _ _ _ _ _ | exact Kd.V_nil _ _ _ _ _ | exact Kd.Q_nil _ _ _ _ _ | exact Kd.S_nil _ _ _ _ _, by repeat (first | (with_reducible first | exact HB.out | apply below_alloc | apply pw_below_drewN | apply below_drew1) | exact HB.out)⟩
  ·rw [if_neg c5] at H
   have c5b0 : ((l1.length : Int) == t258) = false := beq_eq_false_iff_ne.mpr c5
   have c5b1 : ((l1.length : Int) != t258) = true := bne_iff_ne.mpr c5
   simp only [Option.some.injEq, Prod.mk.injEq] at H
   obtain ⟨rfl, rfl⟩ := H
   go_enter Tryd.func15, Tryd.ntmps15
   go_wp2_with (first | ((with_reducible refine gate_callee (f := 42) rfl ?_); refine goesL_ (some 14) rfl rfl Tryd.func42 (by kernel_rfl) rfl #[.slice A0 l0.length c0] rfl (by (try simp only [List.map_toArray, List.map_cons, List.map_nil]); first | done | rfl | (simp only [List.length_drop, List.length_take]; rfl)) ?_; (with_reducible refine (sidingref18_Clashes.calls k _ _ l0 t258 t259 _ ?side1 ?side2 A3.out).mono ?_); (case side1 => repeat (first | exact HR0.out | (with_reducible refine Kd.C_alloc ?_ _) | (with_reducible refine Kd.C_drewN ?_ _) | (with_reducible refine Kd.C_drew ?_))); (case side2 => exact HC0.out); rintro e w60 ⟨rfl, hb⟩; refine ⟨_, rfl, ?_⟩; have n0_ := Aside0.mk (below_step (by repeat (first | (with_reducible first | exact HB.out | apply below_alloc | apply pw_below_drewN | apply below_drew1) | exact HB.out)) hb); clear HB; have HB := n0_; clear n0_; (try clear hb); (try clear hb2); (try clear hk); (try clear hi)))
   go_ret2
   exact ⟨_, by first | rfl | (simp [errW_none, errW_some] <;> rfl) | (simp [*, errW_none, errW_some] <;> rfl), by first | exact Kd.R_nil _ _ _ _ _ | exact Kd.N_nil _ _ _ _ _ | exact Kd.V_nil _ _ _ _ _ | exact Kd.Q_nil _ _ _ _ _ | exact Kd.S_nil _ _ _ _ _, by repeat (first | (with_reducible first | exact HB.out | apply below_alloc | apply pw_below_drewN | apply below_drew1) | exact HB.out)⟩
 ·rw [if_neg c4] at H
  have c4b0 : (t259 == 0) = false := beq_eq_false_iff_ne.mpr c4
  have c4b1 : (t259 != 0) = true := bne_iff_ne.mpr c4
  simp only [Option.some.injEq, Prod.mk.injEq] at H
  obtain ⟨rfl, rfl⟩ := H
  go_enter Tryd.func15, Tryd.ntmps15
  go_wp2_with (first | ((with_reducible refine gate_callee (f := 42) rfl ?_); refine goesL_ (some 14) rfl rfl Tryd.func42 (by kernel_rfl) rfl #[.slice A0 l0.length c0] rfl (by (try simp only [List.map_toArray, List.map_cons, List.map_nil]); first | done | rfl | (simp only [List.length_drop, List.length_take]; rfl)) ?_; (with_reducible refine (sidingref18_Clashes.calls k _ _ l0 t258 t259 _ ?side1 ?side2 A3.out).mono ?_); (case side1 => repeat (first | exact HR0.out | (with_reducible refine Kd.C_alloc ?_ _) | (with_reducible refine Kd.C_drewN ?_ _) | (with_reducible refine Kd.C_drew ?_))); (case side2 => exact HC0.out); rintro e w61 ⟨rfl, hb⟩; refine ⟨_, rfl, ?_⟩; have n0_ := Aside0.mk (below_step (by repeat (first | (with_reducible first | exact HB.out | apply below_alloc | apply pw_below_drewN | apply below_drew1) | exact HB.out)) hb); clear HB; have HB := n0_; clear n0_; (try clear hb); (try clear hb2); (try clear hk); (try clear hi)))
  go_ret2
  exact ⟨_, by first | rfl | (simp [errW_none, errW_some] <;> rfl) | (simp [*, errW_none, errW_some] <;> rfl), by first | exact Kd.R_nil _ _ _ _ _ | exact Kd.N_nil _ _ _ _ _ | exact Kd.V_nil _ _ _ _ _ | exact Kd.Q_nil _ _ _ _ _ | exact Kd.S_nil _ _ _ _ _, by repeat (first | (with_reducible first | exact HB.out | apply below_alloc | apply pw_below_drewN | apply below_drew1) | exact HB.out)⟩
end Go.Proofs.YtpklfaglenkdaaaDoor.Pr
