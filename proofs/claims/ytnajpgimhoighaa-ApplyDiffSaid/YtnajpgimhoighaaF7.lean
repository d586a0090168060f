-- Written by wip/tools/myprint.py of this project (a walk of the program's text by program).
import Derived.Test.YtnajpgimhoighaaK
import Derived.Test.YtnajpgimhoighaaAlive16
import Derived.Test.YtnajpgimhoighaaF11
import Derived.Test.YtnajpgimhoighaaF15
import Derived.Test.YtnajpgimhoighaaF17
import Derived.Test.YtnajpgimhoighaaF24
import Derived.Test.YtnajpgimhoighaaF25
import Derived.Test.YtnajpgimhoighaaF8
import Derived.Test.YtnajpgimhoighaaMoved
namespace Go.Proofs.Ytnajpgimhoighaa.Pr
open Go.RowKit Go.Proofs.YtnajpgimhoighaaW.PrintWords Go.Proofs.YtnajpgimhoighaaW.PrintLast Go.Proofs.YtnajpgimhoighaaW.PrintMore
attribute [local go_sem] max2_int min2_int max_two min_two max_three min_three max_four min_four   -- for this text's walks alone
set_option linter.unusedVariables false
set_option linter.unusedSimpArgs false

/-! ### sidinglaw16_ApplyDiff: function 7 -/
mutual
def sidinglaw16_ApplyDiff.j0 : Nat → List ByteArray → List ByteArray → Bool → Bool → Option (Bool)
  | 0, _, _, _, _ => none
  | k + 1, x0, x1, x5, x34 => if x34 = true then (some x5) else ((hunk_Diff.f k x0 x1).bind fun bt780 => ((apply_Exact.f k x0 bt780.1).bind fun bt784 => ((apply_Invert.f k bt780.1).bind fun bt788 => ((apply_Exact.f k x1 bt788.1).bind fun bt792 => ((apply_Moved.f k x0 bt780.1 20).bind fun bt796 => (if bt780.2 = 0 then (if bt784.2 = 0 then (if bt788.2 = 0 then (if bt792.2 = 0 then (if bt796.2.2 = 0 then (sidinglaw16_ApplyDiff.j1 k x0 x1 x5 bt784.1 bt792.1 bt796.1 bt796.2.1 ((bt796.2.1.length : Int) != (bt780.1.length : Int))) else (sidinglaw16_ApplyDiff.j1 k x0 x1 x5 bt784.1 bt792.1 bt796.1 bt796.2.1 true)) else (sidinglaw16_ApplyDiff.j1 k x0 x1 x5 bt784.1 bt792.1 bt796.1 bt796.2.1 true)) else (sidinglaw16_ApplyDiff.j1 k x0 x1 x5 bt784.1 bt792.1 bt796.1 bt796.2.1 true)) else (sidinglaw16_ApplyDiff.j1 k x0 x1 x5 bt784.1 bt792.1 bt796.1 bt796.2.1 true)) else (sidinglaw16_ApplyDiff.j1 k x0 x1 x5 bt784.1 bt792.1 bt796.1 bt796.2.1 true)))))))
def sidinglaw16_ApplyDiff.j1 : Nat → List ByteArray → List ByteArray → Bool → List ByteArray → List ByteArray → List ByteArray → List Int → Bool → Option (Bool)
  | 0, _, _, _, _, _, _, _, _ => none
  | k + 1, x0, x1, x5, x8, x12, x14, x15, x90 => if x90 = true then (some false) else (sidinglaw16_ApplyDiff.l0 k x0 x1 x5 x8 x12 x14 x15 0)
def sidinglaw16_ApplyDiff.l0 : Nat → List ByteArray → List ByteArray → Bool → List ByteArray → List ByteArray → List ByteArray → List Int → Int → Option (Bool)
  | 0, _, _, _, _, _, _, _, _ => none
  | k + 1, x0, x1, x5, x8, x12, x14, x15, x17 => if x17 < (x15.length : Int) then (if 0 ≤ x17 then (if (rd x15 x17) = 0 then (sidinglaw16_ApplyDiff.l0 k x0 x1 x5 x8 x12 x14 x15 (wrap64 (x17 + 1))) else (some false)) else (none)) else (if x5 = true then ((sidingref13_Same.f k x8 x1).bind fun t804 => (if t804 = true then ((sidingref13_Same.f k x12 x0).bind fun t805 => (if t805 = true then ((sidingref13_Same.f k x14 x1).bind fun t806 => (some t806)) else (some false))) else (some false))) else (some false))
end
def sidinglaw16_ApplyDiff.f (k : Nat) (l0 : List ByteArray) (l1 : List ByteArray) : Option (Bool) := (law16_alive.f).bind fun t776 => ((sidingref13_Long.f k l0).bind fun t777 => (if t777 = true then (sidinglaw16_ApplyDiff.j0 k l0 l1 t776 true) else ((sidingref13_Long.f k l1).bind fun t778 => (if t778 = true then (sidinglaw16_ApplyDiff.j0 k l0 l1 t776 true) else ((sidingref14_Both.f k l0 l1).bind fun t779 => (if t779 = 0 then (sidinglaw16_ApplyDiff.j0 k l0 l1 t776 (!t776)) else (sidinglaw16_ApplyDiff.j0 k l0 l1 t776 true)))))))
theorem sidinglaw16_ApplyDiff.mono_l : ∀ k, (∀ y0 y1 y2 y3, LeO (sidinglaw16_ApplyDiff.j0 k y0 y1 y2 y3) (sidinglaw16_ApplyDiff.j0 (k + 1) y0 y1 y2 y3)) ∧ (∀ y0 y1 y2 y3 y4 y5 y6 y7, LeO (sidinglaw16_ApplyDiff.j1 k y0 y1 y2 y3 y4 y5 y6 y7) (sidinglaw16_ApplyDiff.j1 (k + 1) y0 y1 y2 y3 y4 y5 y6 y7)) ∧ (∀ y0 y1 y2 y3 y4 y5 y6 y7, LeO (sidinglaw16_ApplyDiff.l0 k y0 y1 y2 y3 y4 y5 y6 y7) (sidinglaw16_ApplyDiff.l0 (k + 1) y0 y1 y2 y3 y4 y5 y6 y7))
  | 0 => ⟨fun _ _ _ _ r h => by simp [sidinglaw16_ApplyDiff.j0] at h, fun _ _ _ _ _ _ _ _ r h => by simp [sidinglaw16_ApplyDiff.j1] at h, fun _ _ _ _ _ _ _ _ r h => by simp [sidinglaw16_ApplyDiff.l0] at h⟩
  | k + 1 => by
    obtain ⟨ih0, ih1, ih2⟩ := sidinglaw16_ApplyDiff.mono_l k
    refine ⟨?_, ?_, ?_⟩
    · intro y0 y1 y2 y3
      unfold sidinglaw16_ApplyDiff.j0
      repeat' first
      | (with_reducible exact ih0 _ _ _ _)
      | (with_reducible exact ih1 _ _ _ _ _ _ _ _)
      | (with_reducible exact ih2 _ _ _ _ _ _ _ _)
      | (with_reducible exact apply_Exact.mono _ _ _)
      | (with_reducible exact apply_Invert.mono _ _)
      | (with_reducible exact apply_Moved.mono _ _ _ _)
      | (with_reducible exact hunk_Diff.mono _ _ _)
      | (with_reducible exact sidingref13_Long.mono _ _)
      | (with_reducible exact sidingref13_Same.mono _ _ _)
      | (with_reducible exact sidingref14_Both.mono _ _ _)
      | (with_reducible exact LeO.refl _)
      | (with_reducible exact LeO.none _)
      | (with_reducible refine LeO.ite ?_ ?_)
      | (with_reducible refine LeO.bind ?_ (fun _ => ?_))
      | exact ih0 _ _ _ _
      | exact ih1 _ _ _ _ _ _ _ _
      | exact ih2 _ _ _ _ _ _ _ _
      | exact apply_Exact.mono _ _ _
      | exact apply_Invert.mono _ _
      | exact apply_Moved.mono _ _ _ _
      | exact hunk_Diff.mono _ _ _
      | exact sidingref13_Long.mono _ _
      | exact sidingref13_Same.mono _ _ _
      | exact sidingref14_Both.mono _ _ _
      | exact LeO.none _
      | refine LeO.ite ?_ ?_
      | refine LeO.bind ?_ (fun _ => ?_)
    · intro y0 y1 y2 y3 y4 y5 y6 y7
      unfold sidinglaw16_ApplyDiff.j1
      repeat' first
      | (with_reducible exact ih0 _ _ _ _)
      | (with_reducible exact ih1 _ _ _ _ _ _ _ _)
      | (with_reducible exact ih2 _ _ _ _ _ _ _ _)
      | (with_reducible exact apply_Exact.mono _ _ _)
      | (with_reducible exact apply_Invert.mono _ _)
      | (with_reducible exact apply_Moved.mono _ _ _ _)
      | (with_reducible exact hunk_Diff.mono _ _ _)
      | (with_reducible exact sidingref13_Long.mono _ _)
      | (with_reducible exact sidingref13_Same.mono _ _ _)
      | (with_reducible exact sidingref14_Both.mono _ _ _)
      | (with_reducible exact LeO.refl _)
      | (with_reducible exact LeO.none _)
      | (with_reducible refine LeO.ite ?_ ?_)
      | (with_reducible refine LeO.bind ?_ (fun _ => ?_))
      | exact ih0 _ _ _ _
      | exact ih1 _ _ _ _ _ _ _ _
      | exact ih2 _ _ _ _ _ _ _ _
      | exact apply_Exact.mono _ _ _
      | exact apply_Invert.mono _ _
      | exact apply_Moved.mono _ _ _ _
      | exact hunk_Diff.mono _ _ _
      | exact sidingref13_Long.mono _ _
      | exact sidingref13_Same.mono _ _ _
      | exact sidingref14_Both.mono _ _ _
      | exact LeO.none _
      | refine LeO.ite ?_ ?_
      | refine LeO.bind ?_ (fun _ => ?_)
    · intro y0 y1 y2 y3 y4 y5 y6 y7
      unfold sidinglaw16_ApplyDiff.l0
      repeat' first
      | (with_reducible exact ih0 _ _ _ _)
      | (with_reducible exact ih1 _ _ _ _ _ _ _ _)
      | (with_reducible exact ih2 _ _ _ _ _ _ _ _)
      | (with_reducible exact apply_Exact.mono _ _ _)
      | (with_reducible exact apply_Invert.mono _ _)
      | (with_reducible exact apply_Moved.mono _ _ _ _)
      | (with_reducible exact hunk_Diff.mono _ _ _)
      | (with_reducible exact sidingref13_Long.mono _ _)
      | (with_reducible exact sidingref13_Same.mono _ _ _)
      | (with_reducible exact sidingref14_Both.mono _ _ _)
      | (with_reducible exact LeO.refl _)
      | (with_reducible exact LeO.none _)
      | (with_reducible refine LeO.ite ?_ ?_)
      | (with_reducible refine LeO.bind ?_ (fun _ => ?_))
      | exact ih0 _ _ _ _
      | exact ih1 _ _ _ _ _ _ _ _
      | exact ih2 _ _ _ _ _ _ _ _
      | exact apply_Exact.mono _ _ _
      | exact apply_Invert.mono _ _
      | exact apply_Moved.mono _ _ _ _
      | exact hunk_Diff.mono _ _ _
      | exact sidingref13_Long.mono _ _
      | exact sidingref13_Same.mono _ _ _
      | exact sidingref14_Both.mono _ _ _
      | exact LeO.none _
      | refine LeO.ite ?_ ?_
      | refine LeO.bind ?_ (fun _ => ?_)
theorem sidinglaw16_ApplyDiff.mono : ∀ a0 a1 k, LeO (sidinglaw16_ApplyDiff.f k a0 a1) (sidinglaw16_ApplyDiff.f (k + 1) a0 a1) := by
  intro a0 a1 k
  obtain ⟨ih0, ih1, ih2⟩ := sidinglaw16_ApplyDiff.mono_l k
  unfold sidinglaw16_ApplyDiff.f
  repeat' first
      | (with_reducible exact ih0 _ _ _ _)
      | (with_reducible exact ih1 _ _ _ _ _ _ _ _)
      | (with_reducible exact ih2 _ _ _ _ _ _ _ _)
      | (with_reducible exact apply_Exact.mono _ _ _)
      | (with_reducible exact apply_Invert.mono _ _)
      | (with_reducible exact apply_Moved.mono _ _ _ _)
      | (with_reducible exact hunk_Diff.mono _ _ _)
      | (with_reducible exact sidingref13_Long.mono _ _)
      | (with_reducible exact sidingref13_Same.mono _ _ _)
      | (with_reducible exact sidingref14_Both.mono _ _ _)
      | (with_reducible exact LeO.refl _)
      | (with_reducible exact LeO.none _)
      | (with_reducible refine LeO.ite ?_ ?_)
      | (with_reducible refine LeO.bind ?_ (fun _ => ?_))
      | exact ih0 _ _ _ _
      | exact ih1 _ _ _ _ _ _ _ _
      | exact ih2 _ _ _ _ _ _ _ _
      | exact apply_Exact.mono _ _ _
      | exact apply_Invert.mono _ _
      | exact apply_Moved.mono _ _ _ _
      | exact hunk_Diff.mono _ _ _
      | exact sidingref13_Long.mono _ _
      | exact sidingref13_Same.mono _ _ _
      | exact sidingref14_Both.mono _ _ _
      | exact LeO.none _
      | refine LeO.ite ?_ ?_
      | refine LeO.bind ?_ (fun _ => ?_)
set_option maxHeartbeats 8000000 in
set_option maxRecDepth 100000 in
theorem sidinglaw16_ApplyDiff.calls (k : Nat) (A0 : Option Addr) (c0 : Nat) (l0 : List ByteArray) (A1 : Option Addr) (c1 : Nat) (l1 : List ByteArray) (r : Bool) (w : World) (hr0 : Kd.C Kd.string w A0 l0.length l0) (hc0 : l0.length ≤ c0) (hr1 : Kd.C Kd.string w A1 l1.length l1) (hc1 : l1.length ≤ c1) (h : sidinglaw16_ApplyDiff.f k l0 l1 = some r) (hr_ : Aside0 (r = true)) :
  Calls Try.prog 7 #[.slice A0 l0.length c0, .slice A1 l1.length c1] w fun e w' => e = .returned (.bool r) ∧ Below w.heap.size w w' := by
 have HR0 := Aside0.mk hr0
 have HC0 := Aside0.mk hc0
 clear hr0 hc0
 have HR1 := Aside0.mk hr1
 have HC1 := Aside0.mk hc1
 clear hr1 hc1
 have HB := Aside0.mk (Below.refl w.heap.size w)
 have H : ((law16_alive.f).bind fun t776 => ((sidingref13_Long.f k l0).bind fun t777 => (if t777 = true then (sidinglaw16_ApplyDiff.j0 k l0 l1 t776 true) else ((sidingref13_Long.f k l1).bind fun t778 => (if t778 = true then (sidinglaw16_ApplyDiff.j0 k l0 l1 t776 true) else ((sidingref14_Both.f k l0 l1).bind fun t779 => (if t779 = 0 then (sidinglaw16_ApplyDiff.j0 k l0 l1 t776 (!t776)) else (sidinglaw16_ApplyDiff.j0 k l0 l1 t776 true)))))))) = some r := h
 clear h
 replace H := Option.bind_eq_some_iff.mp H
 obtain ⟨t776, A30, H⟩ := H
 replace H : ((sidingref13_Long.f k l0).bind fun t777 => (if t777 = true then (sidinglaw16_ApplyDiff.j0 k l0 l1 t776 true) else ((sidingref13_Long.f k l1).bind fun t778 => (if t778 = true then (sidinglaw16_ApplyDiff.j0 k l0 l1 t776 true) else ((sidingref14_Both.f k l0 l1).bind fun t779 => (if t779 = 0 then (sidinglaw16_ApplyDiff.j0 k l0 l1 t776 (!t776)) else (sidinglaw16_ApplyDiff.j0 k l0 l1 t776 true))))))) = some r := H
 have A3 := Aside0.mk A30
 clear A30
 have HC4 := Aside0.mk H
 clear H
 go_enter Try.func7, Try.ntmps7
 go_upto_region 2 with (first | ((with_reducible refine gate_callee (f := 20) rfl ?_); refine goesL_ (some 18) rfl rfl Try.func20 (by kernel_rfl) rfl #[] rfl (by (try simp only [List.map_toArray, List.map_cons, List.map_nil]); first | done | rfl | (simp only [List.length_drop, List.length_take]; rfl)) ?_; (with_reducible refine (law16_alive.calls  t776 _ A3.out).mono ?_); rintro e w5 ⟨rfl, hb⟩; refine ⟨_, rfl, ?_⟩; have n0_ := Aside0.mk (below_step (by repeat (first | (with_reducible first | exact HB.out | apply below_alloc | apply pw_below_drewN | apply below_drew1) | exact HB.out)) hb); clear HB; have HB := n0_; clear n0_; (try clear hb); (try clear hb2); (try clear hk); (try clear hi)))
 (try simp only [Act.put, List.setIfInBounds_toArray, List.set_cons_zero, List.set_cons_succ])
 go_cut [34] (fun v34 wc => ∃ (kq : Nat) (x34_3 : Bool), v34 = .bool x34_3 ∧ Aside0 (sidinglaw16_ApplyDiff.j0 kq l0 l1 t776 x34_3 = some r) ∧ Aside0 (kq ≤ k) ∧ Aside0 (Below w.heap.size w wc))
 case first =>
  have H := HC4.out
  clear HC4
  replace H := Option.bind_eq_some_iff.mp H
  obtain ⟨t777, A60, H⟩ := H
  replace H : (if t777 = true then (sidinglaw16_ApplyDiff.j0 k l0 l1 t776 true) else ((sidingref13_Long.f k l1).bind fun t778 => (if t778 = true then (sidinglaw16_ApplyDiff.j0 k l0 l1 t776 true) else ((sidingref14_Both.f k l0 l1).bind fun t779 => (if t779 = 0 then (sidinglaw16_ApplyDiff.j0 k l0 l1 t776 (!t776)) else (sidinglaw16_ApplyDiff.j0 k l0 l1 t776 true)))))) = some r := H
  have A6 := Aside0.mk A60
  clear A60
  by_cases c7 : t777 = true
  ·subst c7
   have H1 : (sidinglaw16_ApplyDiff.j0 k l0 l1 t776 true) = some r := by rw [if_pos rfl] at H; exact H
   clear H
   have H := H1
   clear H1
   have H' := Aside0.mk H
   clear H
   go_wp2_with (first | ((with_reducible refine gate_callee (f := 8) rfl ?_); refine goesL_ (some 20) rfl rfl Try.func8 (by kernel_rfl) rfl #[.slice A0 l0.length c0] rfl (by (try simp only [List.map_toArray, List.map_cons, List.map_nil]); first | done | rfl | (simp only [List.length_drop, List.length_take]; rfl)) ?_; (with_reducible refine (sidingref13_Long.calls k _ _ l0 true _ ?side1 ?side2 A6.out).mono ?_); (case side1 => repeat (first | exact (Kd.C_below HR0.out HB.out) | (with_reducible refine Kd.C_alloc ?_ _) | (with_reducible refine Kd.C_drewN ?_ _) | (with_reducible refine Kd.C_drew ?_))); (case side2 => exact HC0.out); rintro e w' ⟨rfl, ⟨nd, rfl⟩⟩; refine ⟨_, rfl, ?_⟩))
   go_meet
   case rel => exact ⟨_, (true), (by first | rfl | (simp; done) | (simp [*]; done)), H', ⟨by first | omega | exact Nat.le_refl _⟩, ⟨by repeat (first | (with_reducible first | exact HB.out | apply below_alloc | apply pw_below_drewN | apply below_drew1) | exact HB.out)⟩⟩
  ·replace c7 := Bool.eq_false_iff.mpr c7
   subst c7
   have H1 : ((sidingref13_Long.f k l1).bind fun t778 => (if t778 = true then (sidinglaw16_ApplyDiff.j0 k l0 l1 t776 true) else ((sidingref14_Both.f k l0 l1).bind fun t779 => (if t779 = 0 then (sidinglaw16_ApplyDiff.j0 k l0 l1 t776 (!t776)) else (sidinglaw16_ApplyDiff.j0 k l0 l1 t776 true))))) = some r := by rw [if_neg (show ¬ (false = true) by decide)] at H; exact H
   clear H
   have H := H1
   clear H1
   replace H := Option.bind_eq_some_iff.mp H
   obtain ⟨t778, A80, H⟩ := H
   replace H : (if t778 = true then (sidinglaw16_ApplyDiff.j0 k l0 l1 t776 true) else ((sidingref14_Both.f k l0 l1).bind fun t779 => (if t779 = 0 then (sidinglaw16_ApplyDiff.j0 k l0 l1 t776 (!t776)) else (sidinglaw16_ApplyDiff.j0 k l0 l1 t776 true)))) = some r := H
   have A8 := Aside0.mk A80
   (try have sameA8 := (Option.some.inj (A6.out.symm.trans A8.out) : t777 = t778))
   clear A80
   by_cases c9 : t778 = true
   ·subst c9
    have H1 : (sidinglaw16_ApplyDiff.j0 k l0 l1 t776 true) = some r := by rw [if_pos rfl] at H; exact H
    clear H
    have H := H1
    clear H1
    have H' := Aside0.mk H
    clear H
    go_wp2_with (first | ((with_reducible refine gate_callee (f := 8) rfl ?_); refine goesL_ (some 20) rfl rfl Try.func8 (by kernel_rfl) rfl #[.slice A0 l0.length c0] rfl (by (try simp only [List.map_toArray, List.map_cons, List.map_nil]); first | done | rfl | (simp only [List.length_drop, List.length_take]; rfl)) ?_; (with_reducible refine (sidingref13_Long.calls k _ _ l0 false _ ?side1 ?side2 A6.out).mono ?_); (case side1 => repeat (first | exact (Kd.C_below HR0.out HB.out) | (with_reducible refine Kd.C_alloc ?_ _) | (with_reducible refine Kd.C_drewN ?_ _) | (with_reducible refine Kd.C_drew ?_))); (case side2 => exact HC0.out); rintro e w' ⟨rfl, ⟨nd, rfl⟩⟩; refine ⟨_, rfl, ?_⟩) | (go_at_call 8; (with_reducible refine (sidingref13_Long.calls k _ _ l1 true _ ?side1 ?side2 A8.out).mono ?_); (case side1 => repeat (first | exact (Kd.C_below HR1.out (by repeat (first | (with_reducible first | exact HB.out | apply below_alloc | apply pw_below_drewN | apply below_drew1) | exact HB.out))) | (with_reducible refine Kd.C_alloc ?_ _) | (with_reducible refine Kd.C_drewN ?_ _) | (with_reducible refine Kd.C_drew ?_))); (case side2 => exact HC1.out); rintro e w' ⟨rfl, ⟨nd, rfl⟩⟩))
    go_meet
    case rel => exact ⟨_, (true), (by first | rfl | (simp; done) | (simp [*]; done)), H', ⟨by first | omega | exact Nat.le_refl _⟩, ⟨by repeat (first | (with_reducible first | exact HB.out | apply below_alloc | apply pw_below_drewN | apply below_drew1) | exact HB.out)⟩⟩
   ·replace c9 := Bool.eq_false_iff.mpr c9
    subst c9
    have H1 : ((sidingref14_Both.f k l0 l1).bind fun t779 => (if t779 = 0 then (sidinglaw16_ApplyDiff.j0 k l0 l1 t776 (!t776)) else (sidinglaw16_ApplyDiff.j0 k l0 l1 t776 true))) = some r := by rw [if_neg (show ¬ (false = true) by decide)] at H; exact H
    clear H
    have H := H1
    clear H1
    replace H := Option.bind_eq_some_iff.mp H
    obtain ⟨t779, A100, H⟩ := H
    replace H : (if t779 = 0 then (sidinglaw16_ApplyDiff.j0 k l0 l1 t776 (!t776)) else (sidinglaw16_ApplyDiff.j0 k l0 l1 t776 true)) = some r := H
    have A10 := Aside0.mk A100
    clear A100
    by_cases c11 : t779 = 0
    ·rw [if_pos c11] at H
     have c11b0 : (t779 == 0) = true := beq_iff_eq.mpr c11
     have c11b1 : (t779 != 0) = false := bne_eq_false_iff_eq.mpr c11
     clear c11
     (first | rw [c11b0] | (simp only [i64_w, i32_w]; rw [c11b0]) | skip)
     have H' := Aside0.mk H
     clear H
     go_wp2_with (first | ((with_reducible refine gate_callee (f := 8) rfl ?_); refine goesL_ (some 20) rfl rfl Try.func8 (by kernel_rfl) rfl #[.slice A0 l0.length c0] rfl (by (try simp only [List.map_toArray, List.map_cons, List.map_nil]); first | done | rfl | (simp only [List.length_drop, List.length_take]; rfl)) ?_; (with_reducible refine (sidingref13_Long.calls k _ _ l0 false _ ?side1 ?side2 A6.out).mono ?_); (case side1 => repeat (first | exact (Kd.C_below HR0.out HB.out) | (with_reducible refine Kd.C_alloc ?_ _) | (with_reducible refine Kd.C_drewN ?_ _) | (with_reducible refine Kd.C_drew ?_))); (case side2 => exact HC0.out); rintro e w' ⟨rfl, ⟨nd, rfl⟩⟩; refine ⟨_, rfl, ?_⟩) | (go_at_call 8; (with_reducible refine (sidingref13_Long.calls k _ _ l1 false _ ?side1 ?side2 A8.out).mono ?_); (case side1 => repeat (first | exact (Kd.C_below HR1.out (by repeat (first | (with_reducible first | exact HB.out | apply below_alloc | apply pw_below_drewN | apply below_drew1) | exact HB.out))) | (with_reducible refine Kd.C_alloc ?_ _) | (with_reducible refine Kd.C_drewN ?_ _) | (with_reducible refine Kd.C_drew ?_))); (case side2 => exact HC1.out); rintro e w' ⟨rfl, ⟨nd, rfl⟩⟩) | (go_at_call 24; (with_reducible refine (sidingref14_Both.calls k _ _ l0 _ _ l1 t779 _ ?side1 ?side2 ?side3 ?side4 A10.out).mono ?_); (case side1 => repeat (first | exact (Kd.C_below HR0.out (by repeat (first | (with_reducible first | exact HB.out | apply below_alloc | apply pw_below_drewN | apply below_drew1) | exact HB.out))) | (with_reducible refine Kd.C_alloc ?_ _) | (with_reducible refine Kd.C_drewN ?_ _) | (with_reducible refine Kd.C_drew ?_))); (case side2 => exact HC0.out); (case side3 => repeat (first | exact (Kd.C_below HR1.out (by repeat (first | (with_reducible first | exact HB.out | apply below_alloc | apply pw_below_drewN | apply below_drew1) | exact HB.out))) | (with_reducible refine Kd.C_alloc ?_ _) | (with_reducible refine Kd.C_drewN ?_ _) | (with_reducible refine Kd.C_drew ?_))); (case side4 => exact HC1.out); rintro e w12 ⟨rfl, hb⟩; have n0_ := Aside0.mk (below_step (by repeat (first | (with_reducible first | exact HB.out | apply below_alloc | apply pw_below_drewN | apply below_drew1) | exact HB.out)) hb); clear HB; have HB := n0_; clear n0_; (try clear hb); (try clear hb2); (try clear hk); (try clear hi)))
     go_meet
     case rel => exact ⟨_, (!t776), (by first | rfl | (simp; done) | (simp [*]; done)), H', ⟨by first | omega | exact Nat.le_refl _⟩, ⟨by repeat (first | (with_reducible first | exact HB.out | apply below_alloc | apply pw_below_drewN | apply below_drew1) | exact HB.out)⟩⟩
    ·rw [if_neg c11] at H
     have c11b0 : (t779 == 0) = false := beq_eq_false_iff_ne.mpr c11
     have c11b1 : (t779 != 0) = true := bne_iff_ne.mpr c11
     (first | rw [c11b0] | (simp only [i64_w, i32_w]; rw [c11b0]) | skip)
     have H' := Aside0.mk H
     clear H
     go_wp2_with (first | ((with_reducible refine gate_callee (f := 8) rfl ?_); refine goesL_ (some 20) rfl rfl Try.func8 (by kernel_rfl) rfl #[.slice A0 l0.length c0] rfl (by (try simp only [List.map_toArray, List.map_cons, List.map_nil]); first | done | rfl | (simp only [List.length_drop, List.length_take]; rfl)) ?_; (with_reducible refine (sidingref13_Long.calls k _ _ l0 false _ ?side1 ?side2 A6.out).mono ?_); (case side1 => repeat (first | exact (Kd.C_below HR0.out HB.out) | (with_reducible refine Kd.C_alloc ?_ _) | (with_reducible refine Kd.C_drewN ?_ _) | (with_reducible refine Kd.C_drew ?_))); (case side2 => exact HC0.out); rintro e w' ⟨rfl, ⟨nd, rfl⟩⟩; refine ⟨_, rfl, ?_⟩) | (go_at_call 8; (with_reducible refine (sidingref13_Long.calls k _ _ l1 false _ ?side1 ?side2 A8.out).mono ?_); (case side1 => repeat (first | exact (Kd.C_below HR1.out (by repeat (first | (with_reducible first | exact HB.out | apply below_alloc | apply pw_below_drewN | apply below_drew1) | exact HB.out))) | (with_reducible refine Kd.C_alloc ?_ _) | (with_reducible refine Kd.C_drewN ?_ _) | (with_reducible refine Kd.C_drew ?_))); (case side2 => exact HC1.out); rintro e w' ⟨rfl, ⟨nd, rfl⟩⟩) | (go_at_call 24; (with_reducible refine (sidingref14_Both.calls k _ _ l0 _ _ l1 t779 _ ?side1 ?side2 ?side3 ?side4 A10.out).mono ?_); (case side1 => repeat (first | exact (Kd.C_below HR0.out (by repeat (first | (with_reducible first | exact HB.out | apply below_alloc | apply pw_below_drewN | apply below_drew1) | exact HB.out))) | (with_reducible refine Kd.C_alloc ?_ _) | (with_reducible refine Kd.C_drewN ?_ _) | (with_reducible refine Kd.C_drew ?_))); (case side2 => exact HC0.out); (case side3 => repeat (first | exact (Kd.C_below HR1.out (by repeat (first | (with_reducible first | exact HB.out | apply below_alloc | apply pw_below_drewN | apply below_drew1) | exact HB.out))) | (with_reducible refine Kd.C_alloc ?_ _) | (with_reducible refine Kd.C_drewN ?_ _) | (with_reducible refine Kd.C_drew ?_))); (case side4 => exact HC1.out); rintro e w13 ⟨rfl, hb⟩; have n0_ := Aside0.mk (below_step (by repeat (first | (with_reducible first | exact HB.out | apply below_alloc | apply pw_below_drewN | apply below_drew1) | exact HB.out)) hb); clear HB; have HB := n0_; clear n0_; (try clear hb); (try clear hb2); (try clear hk); (try clear hi)))
     go_meet
     case rel => exact ⟨_, (true), (by first | rfl | (simp; done) | (simp [*]; done)), H', ⟨by first | omega | exact Nat.le_refl _⟩, ⟨by repeat (first | (with_reducible first | exact HB.out | apply below_alloc | apply pw_below_drewN | apply below_drew1) | exact HB.out)⟩⟩
 case rest =>
  clear HC4
  try clear c1
  try clear c2
  try clear p2
  try clear c7
  try clear c8
  try clear c9
  try clear c11
  try clear c11b0
  try clear c11b1
  obtain ⟨kq, x34_3, rfl, HA, HJ3, HB⟩ := hcut
  cases kq with
  | zero => exact absurd HA.out (by simp [sidinglaw16_ApplyDiff.j0])
  | succ kj3 =>
   have H := HA.out
   clear HA
   simp only [sidinglaw16_ApplyDiff.j0] at H
   by_cases c14 : x34_3 = true
   ·subst c14
    have H1 : (some t776) = some r := by rw [if_pos rfl] at H; exact H
    clear H
    have H := H1
    clear H1
    obtain rfl := Option.some.inj H
    go_wp2
    go_ret
    exact ⟨by first | rfl | (simp [errW_none, errW_some] <;> rfl) | (simp [*, errW_none, errW_some] <;> rfl), by repeat (first | (with_reducible first | exact HB.out | apply below_alloc | apply pw_below_drewN | apply below_drew1) | exact HB.out)⟩
   ·replace c14 := Bool.eq_false_iff.mpr c14
    subst c14
    have H1 : ((hunk_Diff.f kj3 l0 l1).bind fun bt780 => ((apply_Exact.f kj3 l0 bt780.1).bind fun bt784 => ((apply_Invert.f kj3 bt780.1).bind fun bt788 => ((apply_Exact.f kj3 l1 bt788.1).bind fun bt792 => ((apply_Moved.f kj3 l0 bt780.1 20).bind fun bt796 => (if bt780.2 = 0 then (if bt784.2 = 0 then (if bt788.2 = 0 then (if bt792.2 = 0 then (if bt796.2.2 = 0 then (sidinglaw16_ApplyDiff.j1 kj3 l0 l1 t776 bt784.1 bt792.1 bt796.1 bt796.2.1 ((bt796.2.1.length : Int) != (bt780.1.length : Int))) else (sidinglaw16_ApplyDiff.j1 kj3 l0 l1 t776 bt784.1 bt792.1 bt796.1 bt796.2.1 true)) else (sidinglaw16_ApplyDiff.j1 kj3 l0 l1 t776 bt784.1 bt792.1 bt796.1 bt796.2.1 true)) else (sidinglaw16_ApplyDiff.j1 kj3 l0 l1 t776 bt784.1 bt792.1 bt796.1 bt796.2.1 true)) else (sidinglaw16_ApplyDiff.j1 kj3 l0 l1 t776 bt784.1 bt792.1 bt796.1 bt796.2.1 true)) else (sidinglaw16_ApplyDiff.j1 kj3 l0 l1 t776 bt784.1 bt792.1 bt796.1 bt796.2.1 true))))))) = some r := by rw [if_neg (show ¬ (false = true) by decide)] at H; exact H
    clear H
    have H := H1
    clear H1
    replace H := Option.bind_eq_some_iff.mp H
    obtain ⟨⟨t780, t781⟩, A150, H⟩ := H
    replace H : ((apply_Exact.f kj3 l0 t780).bind fun bt784 => ((apply_Invert.f kj3 t780).bind fun bt788 => ((apply_Exact.f kj3 l1 bt788.1).bind fun bt792 => ((apply_Moved.f kj3 l0 t780 20).bind fun bt796 => (if t781 = 0 then (if bt784.2 = 0 then (if bt788.2 = 0 then (if bt792.2 = 0 then (if bt796.2.2 = 0 then (sidinglaw16_ApplyDiff.j1 kj3 l0 l1 t776 bt784.1 bt792.1 bt796.1 bt796.2.1 ((bt796.2.1.length : Int) != (t780.length : Int))) else (sidinglaw16_ApplyDiff.j1 kj3 l0 l1 t776 bt784.1 bt792.1 bt796.1 bt796.2.1 true)) else (sidinglaw16_ApplyDiff.j1 kj3 l0 l1 t776 bt784.1 bt792.1 bt796.1 bt796.2.1 true)) else (sidinglaw16_ApplyDiff.j1 kj3 l0 l1 t776 bt784.1 bt792.1 bt796.1 bt796.2.1 true)) else (sidinglaw16_ApplyDiff.j1 kj3 l0 l1 t776 bt784.1 bt792.1 bt796.1 bt796.2.1 true)) else (sidinglaw16_ApplyDiff.j1 kj3 l0 l1 t776 bt784.1 bt792.1 bt796.1 bt796.2.1 true)))))) = some r := H
    have A15 := Aside0.mk A150
    clear A150
    replace H := Option.bind_eq_some_iff.mp H
    obtain ⟨⟨t784, t785⟩, A160, H⟩ := H
    replace H : ((apply_Invert.f kj3 t780).bind fun bt788 => ((apply_Exact.f kj3 l1 bt788.1).bind fun bt792 => ((apply_Moved.f kj3 l0 t780 20).bind fun bt796 => (if t781 = 0 then (if t785 = 0 then (if bt788.2 = 0 then (if bt792.2 = 0 then (if bt796.2.2 = 0 then (sidinglaw16_ApplyDiff.j1 kj3 l0 l1 t776 t784 bt792.1 bt796.1 bt796.2.1 ((bt796.2.1.length : Int) != (t780.length : Int))) else (sidinglaw16_ApplyDiff.j1 kj3 l0 l1 t776 t784 bt792.1 bt796.1 bt796.2.1 true)) else (sidinglaw16_ApplyDiff.j1 kj3 l0 l1 t776 t784 bt792.1 bt796.1 bt796.2.1 true)) else (sidinglaw16_ApplyDiff.j1 kj3 l0 l1 t776 t784 bt792.1 bt796.1 bt796.2.1 true)) else (sidinglaw16_ApplyDiff.j1 kj3 l0 l1 t776 t784 bt792.1 bt796.1 bt796.2.1 true)) else (sidinglaw16_ApplyDiff.j1 kj3 l0 l1 t776 t784 bt792.1 bt796.1 bt796.2.1 true))))) = some r := H
    have A16 := Aside0.mk A160
    clear A160
    replace H := Option.bind_eq_some_iff.mp H
    obtain ⟨⟨t788, t789⟩, A170, H⟩ := H
    replace H : ((apply_Exact.f kj3 l1 t788).bind fun bt792 => ((apply_Moved.f kj3 l0 t780 20).bind fun bt796 => (if t781 = 0 then (if t785 = 0 then (if t789 = 0 then (if bt792.2 = 0 then (if bt796.2.2 = 0 then (sidinglaw16_ApplyDiff.j1 kj3 l0 l1 t776 t784 bt792.1 bt796.1 bt796.2.1 ((bt796.2.1.length : Int) != (t780.length : Int))) else (sidinglaw16_ApplyDiff.j1 kj3 l0 l1 t776 t784 bt792.1 bt796.1 bt796.2.1 true)) else (sidinglaw16_ApplyDiff.j1 kj3 l0 l1 t776 t784 bt792.1 bt796.1 bt796.2.1 true)) else (sidinglaw16_ApplyDiff.j1 kj3 l0 l1 t776 t784 bt792.1 bt796.1 bt796.2.1 true)) else (sidinglaw16_ApplyDiff.j1 kj3 l0 l1 t776 t784 bt792.1 bt796.1 bt796.2.1 true)) else (sidinglaw16_ApplyDiff.j1 kj3 l0 l1 t776 t784 bt792.1 bt796.1 bt796.2.1 true)))) = some r := H
    have A17 := Aside0.mk A170
    clear A170
    replace H := Option.bind_eq_some_iff.mp H
    obtain ⟨⟨t792, t793⟩, A180, H⟩ := H
    replace H : ((apply_Moved.f kj3 l0 t780 20).bind fun bt796 => (if t781 = 0 then (if t785 = 0 then (if t789 = 0 then (if t793 = 0 then (if bt796.2.2 = 0 then (sidinglaw16_ApplyDiff.j1 kj3 l0 l1 t776 t784 t792 bt796.1 bt796.2.1 ((bt796.2.1.length : Int) != (t780.length : Int))) else (sidinglaw16_ApplyDiff.j1 kj3 l0 l1 t776 t784 t792 bt796.1 bt796.2.1 true)) else (sidinglaw16_ApplyDiff.j1 kj3 l0 l1 t776 t784 t792 bt796.1 bt796.2.1 true)) else (sidinglaw16_ApplyDiff.j1 kj3 l0 l1 t776 t784 t792 bt796.1 bt796.2.1 true)) else (sidinglaw16_ApplyDiff.j1 kj3 l0 l1 t776 t784 t792 bt796.1 bt796.2.1 true)) else (sidinglaw16_ApplyDiff.j1 kj3 l0 l1 t776 t784 t792 bt796.1 bt796.2.1 true))) = some r := H
    have A18 := Aside0.mk A180
    clear A180
    replace H := Option.bind_eq_some_iff.mp H
    obtain ⟨⟨t796, t797, t798⟩, A190, H⟩ := H
    replace H : (if t781 = 0 then (if t785 = 0 then (if t789 = 0 then (if t793 = 0 then (if t798 = 0 then (sidinglaw16_ApplyDiff.j1 kj3 l0 l1 t776 t784 t792 t796 t797 ((t797.length : Int) != (t780.length : Int))) else (sidinglaw16_ApplyDiff.j1 kj3 l0 l1 t776 t784 t792 t796 t797 true)) else (sidinglaw16_ApplyDiff.j1 kj3 l0 l1 t776 t784 t792 t796 t797 true)) else (sidinglaw16_ApplyDiff.j1 kj3 l0 l1 t776 t784 t792 t796 t797 true)) else (sidinglaw16_ApplyDiff.j1 kj3 l0 l1 t776 t784 t792 t796 t797 true)) else (sidinglaw16_ApplyDiff.j1 kj3 l0 l1 t776 t784 t792 t796 t797 true)) = some r := H
    have A19 := Aside0.mk A190
    clear A190
    have HC20 := Aside0.mk H
    clear H
    go_upto_region 9 with (first | ((with_reducible refine gate_callee (f := 25) rfl ?_); refine goesL_ (some 39) rfl rfl Try.func25 (by kernel_rfl) rfl #[.slice A0 l0.length c0, .slice A1 l1.length c1] rfl (by (try simp only [List.map_toArray, List.map_cons, List.map_nil]); first | done | rfl | (simp only [List.length_drop, List.length_take]; rfl)) ?_; (with_reducible refine (hunk_Diff.calls kj3 _ _ l0 _ _ l1 t780 t781 _ ?side1 ?side2 ?side3 ?side4 A15.out).mono ?_); (case side1 => repeat (first | exact (Kd.C_below HR0.out HB.out) | (with_reducible refine Kd.C_alloc ?_ _) | (with_reducible refine Kd.C_drewN ?_ _) | (with_reducible refine Kd.C_drew ?_))); (case side2 => exact HC0.out); (case side3 => repeat (first | exact (Kd.C_below HR1.out HB.out) | (with_reducible refine Kd.C_alloc ?_ _) | (with_reducible refine Kd.C_drewN ?_ _) | (with_reducible refine Kd.C_drew ?_))); (case side4 => exact HC1.out); rintro e w21 ⟨v782, rfl, ho0, hb⟩; refine ⟨_, rfl, ?_⟩; have n0_ := Aside0.mk (Kd.S_lower ho0 (below_size (by repeat (first | (with_reducible first | exact HB.out | apply below_alloc | apply pw_below_drewN | apply below_drew1) | exact HB.out)))); have n1_ := Aside0.mk (below_step (by repeat (first | (with_reducible first | exact HB.out | apply below_alloc | apply pw_below_drewN | apply below_drew1) | exact HB.out)) hb); clear HB; have HO783 := n0_; have HB := n1_; clear n0_ n1_; (try clear hb); (try clear hb2); (try clear hk); (try clear hi); (try clear ho0); obtain ⟨Ao22, co22, eo22⟩ := Kd.S_slice HO783.out; subst eo22) | ((with_reducible refine gate_callee (f := 11) rfl ?_); refine goesL_ (some 45) rfl rfl Try.func11 (by kernel_rfl) rfl #[.slice A0 l0.length c0, .slice Ao22 t780.length co22] rfl (by (try simp only [List.map_toArray, List.map_cons, List.map_nil]); first | done | rfl | (simp only [List.length_drop, List.length_take]; rfl)) ?_; (with_reducible refine (apply_Exact.calls kj3 _ _ l0 _ _ t780 t784 t785 _ ?side1 ?side2 ?side3 ?side4 A16.out).mono ?_); (case side1 => repeat (first | exact (Kd.C_below HR0.out HB.out) | (with_reducible refine Kd.C_alloc ?_ _) | (with_reducible refine Kd.C_drewN ?_ _) | (with_reducible refine Kd.C_drew ?_))); (case side2 => exact HC0.out); (case side3 => repeat (first | exact (Kd.S_reads' HO783.out).2.2 | (with_reducible refine Kd.C_alloc ?_ _) | (with_reducible refine Kd.C_drewN ?_ _) | (with_reducible refine Kd.C_drew ?_))); (case side4 => exact (Kd.S_reads' HO783.out).2.1); rintro e w23 ⟨v786, rfl, ho0, hb⟩; refine ⟨_, rfl, ?_⟩; have n0_ := Aside0.mk (Kd.S_elder' (by (with_reducible repeat (first | apply Kd.S_alloc | apply Kd.S_drewN | apply Kd.S_drew)); exact HO783.out) (Kd.R_base ho0) hb); have n1_ := Aside0.mk (Kd.R_lower ho0 (below_size (by repeat (first | (with_reducible first | exact HB.out | apply below_alloc | apply pw_below_drewN | apply below_drew1) | exact HB.out)))); have n2_ := Aside0.mk (below_step (by repeat (first | (with_reducible first | exact HB.out | apply below_alloc | apply pw_below_drewN | apply below_drew1) | exact HB.out)) hb); clear HO783; clear HB; have HO783 := n0_; have HO787 := n1_; have HB := n2_; clear n0_ n1_ n2_; (try clear hb); (try clear hb2); (try clear hk); (try clear hi); (try clear ho0)) | ((with_reducible refine gate_callee (f := 15) rfl ?_); refine goesL_ (some 50) rfl rfl Try.func15 (by kernel_rfl) rfl #[.slice Ao22 t780.length co22] rfl (by (try simp only [List.map_toArray, List.map_cons, List.map_nil]); first | done | rfl | (simp only [List.length_drop, List.length_take]; rfl)) ?_; (with_reducible refine (apply_Invert.calls kj3 _ _ t780 t788 t789 _ ?side1 ?side2 A17.out).mono ?_); (case side1 => repeat (first | exact (Kd.S_reads' HO783.out).2.2 | (with_reducible refine Kd.C_alloc ?_ _) | (with_reducible refine Kd.C_drewN ?_ _) | (with_reducible refine Kd.C_drew ?_))); (case side2 => exact (Kd.S_reads' HO783.out).2.1); rintro e w24 ⟨v790, rfl, ho0, hb⟩; refine ⟨_, rfl, ?_⟩; have n0_ := Aside0.mk (Kd.S_elder' (by (with_reducible repeat (first | apply Kd.S_alloc | apply Kd.S_drewN | apply Kd.S_drew)); exact HO783.out) (Kd.S_base ho0) hb); have n1_ := Aside0.mk (Kd.R_below (by (with_reducible repeat (first | apply Kd.R_alloc | apply Kd.R_drewN | apply Kd.R_drew)); exact HO787.out) hb); have n2_ := Aside0.mk (Kd.S_lower (Kd.S_new' (Kd.S_new' ho0 (Kd.S_lt (by (with_reducible repeat (first | apply Kd.S_alloc | apply Kd.S_drewN | apply Kd.S_drew)); exact HO783.out))) (Kd.R_lt (by (with_reducible repeat (first | apply Kd.R_alloc | apply Kd.R_drewN | apply Kd.R_drew)); exact HO787.out))) (below_size (by repeat (first | (with_reducible first | exact HB.out | apply below_alloc | apply pw_below_drewN | apply below_drew1) | exact HB.out)))); have n3_ := Aside0.mk (below_step (by repeat (first | (with_reducible first | exact HB.out | apply below_alloc | apply pw_below_drewN | apply below_drew1) | exact HB.out)) hb); clear HO783; clear HO787; clear HB; have HO783 := n0_; have HO787 := n1_; have HO791 := n2_; have HB := n3_; clear n0_ n1_ n2_ n3_; (try clear hb); (try clear hb2); (try clear hk); (try clear hi); (try clear ho0); obtain ⟨Ao25, co25, eo25⟩ := Kd.S_slice HO791.out; subst eo25) | ((with_reducible refine gate_callee (f := 11) rfl ?_); refine goesL_ (some 56) rfl rfl Try.func11 (by kernel_rfl) rfl #[.slice A1 l1.length c1, .slice Ao25 t788.length co25] rfl (by (try simp only [List.map_toArray, List.map_cons, List.map_nil]); first | done | rfl | (simp only [List.length_drop, List.length_take]; rfl)) ?_; (with_reducible refine (apply_Exact.calls kj3 _ _ l1 _ _ t788 t792 t793 _ ?side1 ?side2 ?side3 ?side4 A18.out).mono ?_); (case side1 => repeat (first | exact (Kd.C_below HR1.out HB.out) | (with_reducible refine Kd.C_alloc ?_ _) | (with_reducible refine Kd.C_drewN ?_ _) | (with_reducible refine Kd.C_drew ?_))); (case side2 => exact HC1.out); (case side3 => repeat (first | exact (Kd.S_reads' HO791.out).2.2 | (with_reducible refine Kd.C_alloc ?_ _) | (with_reducible refine Kd.C_drewN ?_ _) | (with_reducible refine Kd.C_drew ?_))); (case side4 => exact (Kd.S_reads' HO791.out).2.1); rintro e w26 ⟨v794, rfl, ho0, hb⟩; refine ⟨_, rfl, ?_⟩; have n0_ := Aside0.mk (Kd.S_elder' (by (with_reducible repeat (first | apply Kd.S_alloc | apply Kd.S_drewN | apply Kd.S_drew)); exact HO783.out) (Kd.R_base ho0) hb); have n1_ := Aside0.mk (Kd.R_elder' (by (with_reducible repeat (first | apply Kd.R_alloc | apply Kd.R_drewN | apply Kd.R_drew)); exact HO787.out) (Kd.R_base ho0) hb); have n2_ := Aside0.mk (Kd.S_elder' (by (with_reducible repeat (first | apply Kd.S_alloc | apply Kd.S_drewN | apply Kd.S_drew)); exact HO791.out) (Kd.R_base ho0) hb); have n3_ := Aside0.mk (Kd.R_lower (Kd.R_new' ho0 (Kd.R_lt (by (with_reducible repeat (first | apply Kd.R_alloc | apply Kd.R_drewN | apply Kd.R_drew)); exact HO787.out))) (below_size (by repeat (first | (with_reducible first | exact HB.out | apply below_alloc | apply pw_below_drewN | apply below_drew1) | exact HB.out)))); have n4_ := Aside0.mk (below_step (by repeat (first | (with_reducible first | exact HB.out | apply below_alloc | apply pw_below_drewN | apply below_drew1) | exact HB.out)) hb); clear HO783; clear HO787; clear HO791; clear HB; have HO783 := n0_; have HO787 := n1_; have HO791 := n2_; have HO795 := n3_; have HB := n4_; clear n0_ n1_ n2_ n3_ n4_; (try clear hb); (try clear hb2); (try clear hk); (try clear hi); (try clear ho0)) | ((with_reducible refine gate_callee (f := 13) rfl ?_); refine goesL_ (some 62) rfl rfl Try.func13 (by kernel_rfl) rfl #[.slice A0 l0.length c0, .slice Ao22 t780.length co22, .int .i64 20] rfl (by (try simp only [List.map_toArray, List.map_cons, List.map_nil]); first | done | rfl | (simp only [List.length_drop, List.length_take]; rfl)) ?_; (with_reducible refine (apply_Moved.calls kj3 _ _ l0 _ _ t780 20 t796 t797 t798 _ ?side1 ?side2 ?side3 ?side4 A19.out).mono ?_); (case side1 => repeat (first | exact (Kd.C_below HR0.out HB.out) | (with_reducible refine Kd.C_alloc ?_ _) | (with_reducible refine Kd.C_drewN ?_ _) | (with_reducible refine Kd.C_drew ?_))); (case side2 => exact HC0.out); (case side3 => repeat (first | exact (Kd.S_reads' HO783.out).2.2 | (with_reducible refine Kd.C_alloc ?_ _) | (with_reducible refine Kd.C_drewN ?_ _) | (with_reducible refine Kd.C_drew ?_))); (case side4 => exact (Kd.S_reads' HO783.out).2.1); rintro e w27 ⟨v799, v801, rfl, ho0, ho1, hb⟩; refine ⟨_, rfl, ?_⟩; have n0_ := Aside0.mk (Kd.S_elder' (by (with_reducible repeat (first | apply Kd.S_alloc | apply Kd.S_drewN | apply Kd.S_drew)); exact HO783.out) (Kd.R_base ho0) hb); have n1_ := Aside0.mk (Kd.R_elder' (by (with_reducible repeat (first | apply Kd.R_alloc | apply Kd.R_drewN | apply Kd.R_drew)); exact HO787.out) (Kd.R_base ho0) hb); have n2_ := Aside0.mk (Kd.S_elder' (by (with_reducible repeat (first | apply Kd.S_alloc | apply Kd.S_drewN | apply Kd.S_drew)); exact HO791.out) (Kd.R_base ho0) hb); have n3_ := Aside0.mk (Kd.R_elder' (by (with_reducible repeat (first | apply Kd.R_alloc | apply Kd.R_drewN | apply Kd.R_drew)); exact HO795.out) (Kd.R_base ho0) hb); have n4_ := Aside0.mk (Kd.R_lower (Kd.R_new' (Kd.R_new' ho0 (Kd.R_lt (by (with_reducible repeat (first | apply Kd.R_alloc | apply Kd.R_drewN | apply Kd.R_drew)); exact HO787.out))) (Kd.R_lt (by (with_reducible repeat (first | apply Kd.R_alloc | apply Kd.R_drewN | apply Kd.R_drew)); exact HO795.out))) (below_size (by repeat (first | (with_reducible first | exact HB.out | apply below_alloc | apply pw_below_drewN | apply below_drew1) | exact HB.out)))); have n5_ := Aside0.mk (Kd.R_lower ho1 (below_size (by repeat (first | (with_reducible first | exact HB.out | apply below_alloc | apply pw_below_drewN | apply below_drew1) | exact HB.out)))); have n6_ := Aside0.mk (below_step (by repeat (first | (with_reducible first | exact HB.out | apply below_alloc | apply pw_below_drewN | apply below_drew1) | exact HB.out)) hb); clear HO783; clear HO787; clear HO791; clear HO795; clear HB; have HO783 := n0_; have HO787 := n1_; have HO791 := n2_; have HO795 := n3_; have HO800 := n4_; have HO802 := n5_; have HB := n6_; clear n0_ n1_ n2_ n3_ n4_ n5_ n6_; (try clear hb); (try clear hb2); (try clear hk); (try clear hi); (try clear ho0); (try clear ho1)))
    (try simp only [Act.put, List.setIfInBounds_toArray, List.set_cons_zero, List.set_cons_succ])
    go_cut [90] (fun v90 wc => ∃ (kq : Nat) (x90_19 : Bool), v90 = .bool x90_19 ∧ Aside0 (sidinglaw16_ApplyDiff.j1 kq l0 l1 t776 t784 t792 t796 t797 x90_19 = some r) ∧ Aside0 (kq ≤ kj3) ∧ Aside0 (Kd.R Kd.string 9 wc w.heap.size (fun k_ => some k_ ≠ (v794 : Value).ownBlock ∧ some k_ ≠ (v799 : Value).ownBlock) v786 t784) ∧ Aside0 (Kd.R Kd.string 9 wc w.heap.size (fun k_ => some k_ ≠ (v786 : Value).ownBlock ∧ some k_ ≠ (v799 : Value).ownBlock) v794 t792) ∧ Aside0 (Kd.R Kd.string 9 wc w.heap.size (fun k_ => some k_ ≠ (v786 : Value).ownBlock ∧ some k_ ≠ (v794 : Value).ownBlock) v799 t796) ∧ Aside0 (Kd.R (Kd.int .i64) 3 wc w.heap.size (fun _ => True) v801 t797) ∧ Aside0 (Below w.heap.size w wc))
    case first =>
     have H := HC20.out
     clear HC20
     by_cases c28 : t781 = 0
     ·rw [if_pos c28] at H
      have c28b0 : (t781 == 0) = true := beq_iff_eq.mpr c28
      have c28b1 : (t781 != 0) = false := bne_eq_false_iff_eq.mpr c28
      clear c28
      (first | rw [c28b0] | (simp only [i64_w, i32_w]; rw [c28b0]) | skip)
      by_cases c29 : t785 = 0
      ·rw [if_pos c29] at H
       have c29b0 : (t785 == 0) = true := beq_iff_eq.mpr c29
       have c29b1 : (t785 != 0) = false := bne_eq_false_iff_eq.mpr c29
       clear c29
       by_cases c30 : t789 = 0
       ·rw [if_pos c30] at H
        have c30b0 : (t789 == 0) = true := beq_iff_eq.mpr c30
        have c30b1 : (t789 != 0) = false := bne_eq_false_iff_eq.mpr c30
        clear c30
        by_cases c31 : t793 = 0
        ·rw [if_pos c31] at H
         have c31b0 : (t793 == 0) = true := beq_iff_eq.mpr c31
         have c31b1 : (t793 != 0) = false := bne_eq_false_iff_eq.mpr c31
         clear c31
         by_cases c32 : t798 = 0
         ·rw [if_pos c32] at H
          have c32b0 : (t798 == 0) = true := beq_iff_eq.mpr c32
          have c32b1 : (t798 != 0) = false := bne_eq_false_iff_eq.mpr c32
          clear c32
          have H' := Aside0.mk H
          clear H
          obtain ⟨Ao33, co33, eo33⟩ := Kd.R_slice HO802.out
          subst eo33
          go_wp2
          go_meet
          case rel => exact ⟨_, (((t797.length : Int) != (t780.length : Int))), (by first | rfl | (simp; done) | (simp [*]; done)), H', ⟨by have := HJ3.out; first | omega | exact Nat.le_refl _⟩, ⟨by (with_reducible repeat (first | apply Kd.R_alloc | apply Kd.R_drewN | apply Kd.R_drew)); exact Kd.R_mono HO787.out (fun _ hk => ⟨hk.1.2, hk.2⟩)⟩, ⟨by (with_reducible repeat (first | apply Kd.R_alloc | apply Kd.R_drewN | apply Kd.R_drew)); exact Kd.R_mono HO795.out (fun _ hk => ⟨hk.1.2, hk.2⟩)⟩, ⟨by (with_reducible repeat (first | apply Kd.R_alloc | apply Kd.R_drewN | apply Kd.R_drew)); exact Kd.R_mono HO800.out (fun _ hk => ⟨hk.1.2, hk.2⟩)⟩, ⟨by (with_reducible repeat (first | apply Kd.R_alloc | apply Kd.R_drewN | apply Kd.R_drew)); exact HO802.out⟩, ⟨by repeat (first | (with_reducible first | exact HB.out | apply below_alloc | apply pw_below_drewN | apply below_drew1) | exact HB.out)⟩⟩
         ·rw [if_neg c32] at H
          have c32b0 : (t798 == 0) = false := beq_eq_false_iff_ne.mpr c32
          have c32b1 : (t798 != 0) = true := bne_iff_ne.mpr c32
          have H' := Aside0.mk H
          clear H
          go_wp2
          go_meet
          case rel => exact ⟨_, (true), (by first | rfl | (simp; done) | (simp [*]; done)), H', ⟨by have := HJ3.out; first | omega | exact Nat.le_refl _⟩, ⟨by (with_reducible repeat (first | apply Kd.R_alloc | apply Kd.R_drewN | apply Kd.R_drew)); exact Kd.R_mono HO787.out (fun _ hk => ⟨hk.1.2, hk.2⟩)⟩, ⟨by (with_reducible repeat (first | apply Kd.R_alloc | apply Kd.R_drewN | apply Kd.R_drew)); exact Kd.R_mono HO795.out (fun _ hk => ⟨hk.1.2, hk.2⟩)⟩, ⟨by (with_reducible repeat (first | apply Kd.R_alloc | apply Kd.R_drewN | apply Kd.R_drew)); exact Kd.R_mono HO800.out (fun _ hk => ⟨hk.1.2, hk.2⟩)⟩, ⟨by (with_reducible repeat (first | apply Kd.R_alloc | apply Kd.R_drewN | apply Kd.R_drew)); exact HO802.out⟩, ⟨by repeat (first | (with_reducible first | exact HB.out | apply below_alloc | apply pw_below_drewN | apply below_drew1) | exact HB.out)⟩⟩
        ·rw [if_neg c31] at H
         have c31b0 : (t793 == 0) = false := beq_eq_false_iff_ne.mpr c31
         have c31b1 : (t793 != 0) = true := bne_iff_ne.mpr c31
         have H' := Aside0.mk H
         clear H
         go_wp2
         go_meet
         case rel => exact ⟨_, (true), (by first | rfl | (simp; done) | (simp [*]; done)), H', ⟨by have := HJ3.out; first | omega | exact Nat.le_refl _⟩, ⟨by (with_reducible repeat (first | apply Kd.R_alloc | apply Kd.R_drewN | apply Kd.R_drew)); exact Kd.R_mono HO787.out (fun _ hk => ⟨hk.1.2, hk.2⟩)⟩, ⟨by (with_reducible repeat (first | apply Kd.R_alloc | apply Kd.R_drewN | apply Kd.R_drew)); exact Kd.R_mono HO795.out (fun _ hk => ⟨hk.1.2, hk.2⟩)⟩, ⟨by (with_reducible repeat (first | apply Kd.R_alloc | apply Kd.R_drewN | apply Kd.R_drew)); exact Kd.R_mono HO800.out (fun _ hk => ⟨hk.1.2, hk.2⟩)⟩, ⟨by (with_reducible repeat (first | apply Kd.R_alloc | apply Kd.R_drewN | apply Kd.R_drew)); exact HO802.out⟩, ⟨by repeat (first | (with_reducible first | exact HB.out | apply below_alloc | apply pw_below_drewN | apply below_drew1) | exact HB.out)⟩⟩
       ·rw [if_neg c30] at H
        have c30b0 : (t789 == 0) = false := beq_eq_false_iff_ne.mpr c30
        have c30b1 : (t789 != 0) = true := bne_iff_ne.mpr c30
        have H' := Aside0.mk H
        clear H
        go_wp2
        go_meet
        case rel => exact ⟨_, (true), (by first | rfl | (simp; done) | (simp [*]; done)), H', ⟨by have := HJ3.out; first | omega | exact Nat.le_refl _⟩, ⟨by (with_reducible repeat (first | apply Kd.R_alloc | apply Kd.R_drewN | apply Kd.R_drew)); exact Kd.R_mono HO787.out (fun _ hk => ⟨hk.1.2, hk.2⟩)⟩, ⟨by (with_reducible repeat (first | apply Kd.R_alloc | apply Kd.R_drewN | apply Kd.R_drew)); exact Kd.R_mono HO795.out (fun _ hk => ⟨hk.1.2, hk.2⟩)⟩, ⟨by (with_reducible repeat (first | apply Kd.R_alloc | apply Kd.R_drewN | apply Kd.R_drew)); exact Kd.R_mono HO800.out (fun _ hk => ⟨hk.1.2, hk.2⟩)⟩, ⟨by (with_reducible repeat (first | apply Kd.R_alloc | apply Kd.R_drewN | apply Kd.R_drew)); exact HO802.out⟩, ⟨by repeat (first | (with_reducible first | exact HB.out | apply below_alloc | apply pw_below_drewN | apply below_drew1) | exact HB.out)⟩⟩
      ·rw [if_neg c29] at H
       have c29b0 : (t785 == 0) = false := beq_eq_false_iff_ne.mpr c29
       have c29b1 : (t785 != 0) = true := bne_iff_ne.mpr c29
       have H' := Aside0.mk H
       clear H
       go_wp2
       go_meet
       case rel => exact ⟨_, (true), (by first | rfl | (simp; done) | (simp [*]; done)), H', ⟨by have := HJ3.out; first | omega | exact Nat.le_refl _⟩, ⟨by (with_reducible repeat (first | apply Kd.R_alloc | apply Kd.R_drewN | apply Kd.R_drew)); exact Kd.R_mono HO787.out (fun _ hk => ⟨hk.1.2, hk.2⟩)⟩, ⟨by (with_reducible repeat (first | apply Kd.R_alloc | apply Kd.R_drewN | apply Kd.R_drew)); exact Kd.R_mono HO795.out (fun _ hk => ⟨hk.1.2, hk.2⟩)⟩, ⟨by (with_reducible repeat (first | apply Kd.R_alloc | apply Kd.R_drewN | apply Kd.R_drew)); exact Kd.R_mono HO800.out (fun _ hk => ⟨hk.1.2, hk.2⟩)⟩, ⟨by (with_reducible repeat (first | apply Kd.R_alloc | apply Kd.R_drewN | apply Kd.R_drew)); exact HO802.out⟩, ⟨by repeat (first | (with_reducible first | exact HB.out | apply below_alloc | apply pw_below_drewN | apply below_drew1) | exact HB.out)⟩⟩
     ·rw [if_neg c28] at H
      have c28b0 : (t781 == 0) = false := beq_eq_false_iff_ne.mpr c28
      have c28b1 : (t781 != 0) = true := bne_iff_ne.mpr c28
      (first | rw [c28b0] | (simp only [i64_w, i32_w]; rw [c28b0]) | skip)
      have H' := Aside0.mk H
      clear H
      go_wp2
      go_meet
      case rel => exact ⟨_, (true), (by first | rfl | (simp; done) | (simp [*]; done)), H', ⟨by have := HJ3.out; first | omega | exact Nat.le_refl _⟩, ⟨by (with_reducible repeat (first | apply Kd.R_alloc | apply Kd.R_drewN | apply Kd.R_drew)); exact Kd.R_mono HO787.out (fun _ hk => ⟨hk.1.2, hk.2⟩)⟩, ⟨by (with_reducible repeat (first | apply Kd.R_alloc | apply Kd.R_drewN | apply Kd.R_drew)); exact Kd.R_mono HO795.out (fun _ hk => ⟨hk.1.2, hk.2⟩)⟩, ⟨by (with_reducible repeat (first | apply Kd.R_alloc | apply Kd.R_drewN | apply Kd.R_drew)); exact Kd.R_mono HO800.out (fun _ hk => ⟨hk.1.2, hk.2⟩)⟩, ⟨by (with_reducible repeat (first | apply Kd.R_alloc | apply Kd.R_drewN | apply Kd.R_drew)); exact HO802.out⟩, ⟨by repeat (first | (with_reducible first | exact HB.out | apply below_alloc | apply pw_below_drewN | apply below_drew1) | exact HB.out)⟩⟩
    case rest =>
     clear HC20
     try clear c1
     try clear c2
     try clear p2
     try clear c3
     try clear c7
     try clear c8
     try clear c9
     try clear c11
     try clear c11b0
     try clear c11b1
     try clear c13
     try clear c14
     try clear c15
     try clear c20
     try clear c25
     try clear c28
     try clear c28b0
     try clear c28b1
     try clear c29
     try clear c29b0
     try clear c29b1
     try clear c30
     try clear c30b0
     try clear c30b1
     try clear c31
     try clear c31b0
     try clear c31b1
     try clear c32
     try clear c32b0
     try clear c32b1
     try clear p2
     obtain ⟨kq, x90_19, rfl, HA, HJ19, HO_8, HO_12, HO_14, HO_15, HB⟩ := hcut
     cases kq with
     | zero => exact absurd HA.out (by simp [sidinglaw16_ApplyDiff.j1])
     | succ kj19 =>
      have H := HA.out
      clear HA
      simp only [sidinglaw16_ApplyDiff.j1] at H
      by_cases c34 : x90_19 = true
      ·subst c34
       have H1 : (some false) = some r := by rw [if_pos rfl] at H; exact H
       clear H
       have H := H1
       clear H1
       exact absurd ((Option.some.inj H).trans hr_.out) (by decide)
      ·replace c34 := Bool.eq_false_iff.mpr c34
       subst c34
       have H1 : (sidinglaw16_ApplyDiff.l0 kj19 l0 l1 t776 t784 t792 t796 t797 0) = some r := by rw [if_neg (show ¬ (false = true) by decide)] at H; exact H
       clear H
       have H := H1
       clear H1
       have H' := Aside0.mk H
       clear H
       go_wp2
       go_loopg [17] kj19 (fun kq v17 w' => ∃ (x17_3 : Int), v17 = .int .i64 x17_3 ∧ Aside0 (sidinglaw16_ApplyDiff.l0 kq l0 l1 t776 t784 t792 t796 t797 x17_3 = some r) ∧ Aside0 (kq ≤ kj19) ∧ Aside0 (Kd.R Kd.string 9 w' w.heap.size (fun k_ => some k_ ≠ (v794 : Value).ownBlock ∧ some k_ ≠ (v799 : Value).ownBlock) v786 t784) ∧ Aside0 (Kd.R Kd.string 9 w' w.heap.size (fun k_ => some k_ ≠ (v786 : Value).ownBlock ∧ some k_ ≠ (v799 : Value).ownBlock) v794 t792) ∧ Aside0 (Kd.R Kd.string 9 w' w.heap.size (fun k_ => some k_ ≠ (v786 : Value).ownBlock ∧ some k_ ≠ (v794 : Value).ownBlock) v799 t796) ∧ Aside0 (Kd.R (Kd.int .i64) 3 w' w.heap.size (fun _ => True) v801 t797) ∧ Aside0 (Below w.heap.size w w'))
       case atStart => exact ⟨(0), (by first | rfl | (simp; done) | (simp [*]; done)), H', ⟨Nat.le_refl _⟩, ⟨by (with_reducible repeat (first | apply Kd.R_alloc | apply Kd.R_drewN | apply Kd.R_drew)); exact HO_8.out⟩, ⟨by (with_reducible repeat (first | apply Kd.R_alloc | apply Kd.R_drewN | apply Kd.R_drew)); exact HO_12.out⟩, ⟨by (with_reducible repeat (first | apply Kd.R_alloc | apply Kd.R_drewN | apply Kd.R_drew)); exact HO_14.out⟩, ⟨by (with_reducible repeat (first | apply Kd.R_alloc | apply Kd.R_drewN | apply Kd.R_drew)); exact HO_15.out⟩, ⟨by repeat (first | (with_reducible first | exact HB.out | apply below_alloc | apply pw_below_drewN | apply below_drew1) | exact HB.out)⟩⟩
       case round =>
        clear H'
        try clear c1
        try clear c2
        try clear p2
        try clear c3
        try clear c7
        try clear c8
        try clear c9
        try clear c11
        try clear c11b0
        try clear c11b1
        try clear c13
        try clear c14
        try clear c15
        try clear c20
        try clear c25
        try clear c28
        try clear c28b0
        try clear c28b1
        try clear c29
        try clear c29b0
        try clear c29b1
        try clear c30
        try clear c30b0
        try clear c30b1
        try clear c31
        try clear c31b0
        try clear c31b1
        try clear c32
        try clear c32b0
        try clear c32b1
        try clear c34
        try clear p2
        obtain ⟨x17_3, rfl, HA, HK3, HO_8, HO_12, HO_14, HO_15, HB⟩ := hrel
        cases gk with
        | zero => exact absurd HA.out (by simp [sidinglaw16_ApplyDiff.l0])
        | succ k3 =>
         have H := HA.out
         clear HA
         simp only [sidinglaw16_ApplyDiff.l0] at H
         by_cases c35 : x17_3 < (t797.length : Int)
         ·rw [if_pos c35] at H
          have c35b0 : decide (x17_3 < (t797.length : Int)) = true := decide_eq_true c35
          clear c35
          by_cases c36 : 0 ≤ x17_3
          ·rw [if_pos c36] at H
           have c36b0 : decide (0 ≤ x17_3) = true := decide_eq_true c36
           clear c36
           by_cases c37 : (rd t797 x17_3) = 0
           ·rw [if_pos c37] at H
            have c37b0 : ((rd t797 x17_3) == 0) = true := beq_iff_eq.mpr c37
            have c37b1 : ((rd t797 x17_3) != 0) = false := bne_eq_false_iff_eq.mpr c37
            clear c37
            have H' := Aside0.mk H
            clear H
            obtain ⟨Ao38, co38, eo38⟩ := Kd.R_slice HO_15.out
            subst eo38
            have p803 : 0 ≤ (x17_3 : Int) := of_decide_eq_true (by first | (with_reducible assumption) | assumption)
            have q803 : x17_3 < (t797.length : Int) := of_decide_eq_true (by first | (with_reducible assumption) | assumption)
            obtain ⟨ad803, e803, hx803_0⟩ := Kd.at_int (Kd.R_reads' HO_15.out).2.2 x17_3 p803 q803
            cases e803
            replace p803 := eq_true p803
            replace q803 := eq_true q803
            go_wp2
            go_roundg k3
            case measure => have := HJ3.out; have := HJ19.out; have := HK3.out; omega
            case rel => exact ⟨(wrap64 (x17_3 + 1)), (by first | rfl | (simp; done) | (simp [*]; done)), H', ⟨by have := HJ3.out; have := HJ19.out; have := HK3.out; omega⟩, ⟨by (with_reducible repeat (first | apply Kd.R_alloc | apply Kd.R_drewN | apply Kd.R_drew)); exact HO_8.out⟩, ⟨by (with_reducible repeat (first | apply Kd.R_alloc | apply Kd.R_drewN | apply Kd.R_drew)); exact HO_12.out⟩, ⟨by (with_reducible repeat (first | apply Kd.R_alloc | apply Kd.R_drewN | apply Kd.R_drew)); exact HO_14.out⟩, ⟨by (with_reducible repeat (first | apply Kd.R_alloc | apply Kd.R_drewN | apply Kd.R_drew)); exact HO_15.out⟩, ⟨by repeat (first | (with_reducible first | exact HB.out | apply below_alloc | apply pw_below_drewN | apply below_drew1) | exact HB.out)⟩⟩
           ·rw [if_neg c37] at H
            have c37b0 : ((rd t797 x17_3) == 0) = false := beq_eq_false_iff_ne.mpr c37
            have c37b1 : ((rd t797 x17_3) != 0) = true := bne_iff_ne.mpr c37
            exact absurd ((Option.some.inj H).trans hr_.out) (by decide)
          ·rw [if_neg c36] at H
           exact absurd H (by simp)
         ·rw [if_neg c35] at H
          have c35b0 : decide (x17_3 < (t797.length : Int)) = false := decide_eq_false c35
          clear c35
          by_cases c39 : t776 = true
          ·subst c39
           have H1 : ((sidingref13_Same.f k3 t784 l1).bind fun t804 => (if t804 = true then ((sidingref13_Same.f k3 t792 l0).bind fun t805 => (if t805 = true then ((sidingref13_Same.f k3 t796 l1).bind fun t806 => (some t806)) else (some false))) else (some false))) = some r := by rw [if_pos rfl] at H; exact H
           clear H
           have H := H1
           clear H1
           replace H := Option.bind_eq_some_iff.mp H
           obtain ⟨t804, A400, H⟩ := H
           replace H : (if t804 = true then ((sidingref13_Same.f k3 t792 l0).bind fun t805 => (if t805 = true then ((sidingref13_Same.f k3 t796 l1).bind fun t806 => (some t806)) else (some false))) else (some false)) = some r := H
           have A40 := Aside0.mk A400
           clear A400
           by_cases c41 : t804 = true
           ·subst c41
            have H1 : ((sidingref13_Same.f k3 t792 l0).bind fun t805 => (if t805 = true then ((sidingref13_Same.f k3 t796 l1).bind fun t806 => (some t806)) else (some false))) = some r := by rw [if_pos rfl] at H; exact H
            clear H
            have H := H1
            clear H1
            replace H := Option.bind_eq_some_iff.mp H
            obtain ⟨t805, A420, H⟩ := H
            replace H : (if t805 = true then ((sidingref13_Same.f k3 t796 l1).bind fun t806 => (some t806)) else (some false)) = some r := H
            have A42 := Aside0.mk A420
            (try have sameA42 := (Option.some.inj (A40.out.symm.trans A42.out) : t804 = t805))
            clear A420
            by_cases c43 : t805 = true
            ·subst c43
             have H1 : ((sidingref13_Same.f k3 t796 l1).bind fun t806 => (some t806)) = some r := by rw [if_pos rfl] at H; exact H
             clear H
             have H := H1
             clear H1
             replace H := Option.bind_eq_some_iff.mp H
             obtain ⟨t806, A440, H⟩ := H
             replace H : (some t806) = some r := H
             have A44 := Aside0.mk A440
             (try have sameA44 := (Option.some.inj (A42.out.symm.trans A44.out) : t805 = t806))
             clear A440
             obtain rfl := Option.some.inj H
             obtain ⟨Ao45, co45, eo45⟩ := Kd.R_slice HO_15.out
             subst eo45
             obtain ⟨Ao46, co46, eo46⟩ := Kd.R_slice HO_8.out
             subst eo46
             go_wp2_with (first | (go_at_call 17; (with_reducible refine (sidingref13_Same.calls k3 _ _ t784 _ _ l1 true _ ?side1 ?side2 ?side3 ?side4 A40.out).mono ?_); (case side1 => repeat (first | exact (Kd.R_reads' HO_8.out).2.2 | (with_reducible refine Kd.C_alloc ?_ _) | (with_reducible refine Kd.C_drewN ?_ _) | (with_reducible refine Kd.C_drew ?_))); (case side2 => exact (Kd.R_reads' HO_8.out).2.1); (case side3 => repeat (first | exact (Kd.C_below HR1.out HB.out) | (with_reducible refine Kd.C_alloc ?_ _) | (with_reducible refine Kd.C_drewN ?_ _) | (with_reducible refine Kd.C_drew ?_))); (case side4 => exact HC1.out); rintro e w' ⟨rfl, ⟨nd, rfl⟩⟩; obtain ⟨Ao47, co47, eo47⟩ := Kd.R_slice HO_12.out; subst eo47) | (go_at_call 17; (with_reducible refine (sidingref13_Same.calls k3 _ _ t792 _ _ l0 true _ ?side1 ?side2 ?side3 ?side4 A42.out).mono ?_); (case side1 => repeat (first | exact (Kd.R_reads' HO_12.out).2.2 | (with_reducible refine Kd.C_alloc ?_ _) | (with_reducible refine Kd.C_drewN ?_ _) | (with_reducible refine Kd.C_drew ?_))); (case side2 => exact (Kd.R_reads' HO_12.out).2.1); (case side3 => repeat (first | exact (Kd.C_below HR0.out (by repeat (first | (with_reducible first | exact HB.out | apply below_alloc | apply pw_below_drewN | apply below_drew1) | exact HB.out))) | (with_reducible refine Kd.C_alloc ?_ _) | (with_reducible refine Kd.C_drewN ?_ _) | (with_reducible refine Kd.C_drew ?_))); (case side4 => exact HC0.out); rintro e w' ⟨rfl, ⟨nd, rfl⟩⟩; obtain ⟨Ao48, co48, eo48⟩ := Kd.R_slice HO_14.out; subst eo48) | (go_at_call 17; (with_reducible refine (sidingref13_Same.calls k3 _ _ t796 _ _ l1 t806 _ ?side1 ?side2 ?side3 ?side4 A44.out).mono ?_); (case side1 => repeat (first | exact (Kd.R_reads' HO_14.out).2.2 | (with_reducible refine Kd.C_alloc ?_ _) | (with_reducible refine Kd.C_drewN ?_ _) | (with_reducible refine Kd.C_drew ?_))); (case side2 => exact (Kd.R_reads' HO_14.out).2.1); (case side3 => repeat (first | exact (Kd.C_below HR1.out (by repeat (first | (with_reducible first | exact HB.out | apply below_alloc | apply pw_below_drewN | apply below_drew1) | exact HB.out))) | (with_reducible refine Kd.C_alloc ?_ _) | (with_reducible refine Kd.C_drewN ?_ _) | (with_reducible refine Kd.C_drew ?_))); (case side4 => exact HC1.out); rintro e w' ⟨rfl, ⟨nd, rfl⟩⟩))
             go_ret
             (try rw [sameA42])
             (try rw [sameA44])
             exact ⟨by first | rfl | (simp [errW_none, errW_some] <;> rfl) | (simp [*, errW_none, errW_some] <;> rfl), by repeat (first | (with_reducible first | exact HB.out | apply below_alloc | apply pw_below_drewN | apply below_drew1) | exact HB.out)⟩
            ·replace c43 := Bool.eq_false_iff.mpr c43
             subst c43
             have H1 : (some false) = some r := by rw [if_neg (show ¬ (false = true) by decide)] at H; exact H
             clear H
             have H := H1
             clear H1
             exact absurd ((Option.some.inj H).trans hr_.out) (by decide)
           ·replace c41 := Bool.eq_false_iff.mpr c41
            subst c41
            have H1 : (some false) = some r := by rw [if_neg (show ¬ (false = true) by decide)] at H; exact H
            clear H
            have H := H1
            clear H1
            exact absurd ((Option.some.inj H).trans hr_.out) (by decide)
          ·replace c39 := Bool.eq_false_iff.mpr c39
           subst c39
           have H1 : (some false) = some r := by rw [if_neg (show ¬ (false = true) by decide)] at H; exact H
           clear H
           have H := H1
           clear H1
           exact absurd ((Option.some.inj H).trans hr_.out) (by decide)
def sidinglaw16_ApplyDiff.Pure : Prop := ∀ (l0 : List ByteArray) (l1 : List ByteArray), (l0.length * 16 ≤ 140737488351232 ∧ ∀ x0_ ∈ l0, x0_.size ≤ 140737488351232) → (l1.length * 16 ≤ 140737488351232 ∧ ∀ x0_ ∈ l1, x0_.size ≤ 140737488351232) → ∃ k, sidinglaw16_ApplyDiff.f k l0 l1 = some true
theorem sidinglaw16_ApplyDiff.walk (P : sidinglaw16_ApplyDiff.Pure) (A0 : Option Addr) (c0 : Nat) (l0 : List ByteArray) (A1 : Option Addr) (c1 : Nat) (l1 : List ByteArray) (w : World) (hr0 : Kd.C Kd.string w A0 l0.length l0) (hc0 : l0.length ≤ c0) (hr1 : Kd.C Kd.string w A1 l1.length l1) (hc1 : l1.length ≤ c1) (hw0 : l0.length * 16 ≤ 140737488351232 ∧ ∀ x0_ ∈ l0, x0_.size ≤ 140737488351232) (hw1 : l1.length * 16 ≤ 140737488351232 ∧ ∀ x0_ ∈ l1, x0_.size ≤ 140737488351232) :
  Calls Try.prog 7 #[.slice A0 l0.length c0, .slice A1 l1.length c1] w fun e w' => e = .returned (.bool true) ∧ Below w.heap.size w w' := by
 obtain ⟨k, h⟩ := P l0 l1 hw0 hw1
 refine (sidinglaw16_ApplyDiff.calls k A0 c0 l0 A1 c1 l1 true w hr0 hc0 hr1 hc1 h ⟨rfl⟩).mono ?_
 rintro e w' ⟨rfl, hd⟩
 exact ⟨rfl, hd⟩

end Go.Proofs.Ytnajpgimhoighaa.Pr
