-- Written by wip/tools/myprint.py of this project (a walk of the program's text by program).
import Derived.Test.YtnajpgimhoighaaK
import Derived.Test.YtnajpgimhoighaaF10
import Derived.Test.YtnajpgimhoighaaF11
import Derived.Test.YtnajpgimhoighaaF12
import Derived.Test.YtnajpgimhoighaaF14
import Derived.Test.YtnajpgimhoighaaF15
import Derived.Test.YtnajpgimhoighaaF16
import Derived.Test.YtnajpgimhoighaaF17
import Derived.Test.YtnajpgimhoighaaF18
import Derived.Test.YtnajpgimhoighaaF19
import Derived.Test.YtnajpgimhoighaaF8
import Derived.Test.YtnajpgimhoighaaF9
import Derived.Test.YtnajpgimhoighaaMoved
namespace Go.Proofs.Ytnajpgimhoighaa.Pr
open Go.RowKit Go.Proofs.YtnajpgimhoighaaW.PrintWords Go.Proofs.YtnajpgimhoighaaW.PrintLast Go.Proofs.YtnajpgimhoighaaW.PrintMore
attribute [local go_sem] max2_int min2_int max_two min_two max_three min_three max_four min_four   -- for this text's walks alone
set_option linter.unusedVariables false
set_option linter.unusedSimpArgs false

/-! ### sidinglaw16_ApplyDoes: function 3 -/
def sidinglaw16_ApplyDoes.j0 : Nat → List ByteArray → List (S46) → Int → Bool → Option (Bool)
  | 0, _, _, _, _ => none
  | k + 1, x0, x1, x2, x28 => if x28 = true then (some true) else ((some (([] : List ByteArray) : List ByteArray)).bind fun y306 => (if y306.length + x0.length < 8796093022208 then ((some (y306 ++ x0 : List ByteArray)).bind fun y309 => ((sidingref15_Twin.f k x1).bind fun t312 => ((apply_Exact.f k y309 t312).bind fun bt315 => ((sidingref16_Exact.f k x0 x1).bind fun bt319 => ((apply_Moved.f k y309 t312 x2).bind fun bt323 => ((sidingref16_Moved.f k x0 x1 x2).bind fun bt330 => ((apply_Invert.f k t312).bind fun bt337 => ((sidingref16_Invert.f k x1).bind fun bt341 => ((sidingref13_Same.f k bt315.1 bt319.1).bind fun t345 => (if t345 = true then (if bt315.2 = bt319.2 then ((sidingref13_Same.f k bt323.1 bt330.1).bind fun t346 => (if t346 = true then ((sidingref16_SameInts.f k bt323.2.1 bt330.2.1).bind fun t347 => (if t347 = true then (if bt323.2.2 = bt330.2.2 then ((sidingref15_Same.f k bt337.1 bt341.1).bind fun t348 => (if t348 = true then (if bt337.2 = bt341.2 then ((sidingref13_Same.f k y309 x0).bind fun t349 => (if t349 = true then ((sidingref15_Same.f k t312 x1).bind fun t350 => (some t350)) else (some false))) else (some false)) else (some false))) else (some false)) else (some false))) else (some false))) else (some false)) else (some false))))))))))) else (none)))
def sidinglaw16_ApplyDoes.f (k : Nat) (l0 : List ByteArray) (l1 : List (S46)) (a2 : Int) : Option (Bool) := (sidingref13_Long.f k l0).bind fun t304 => (if t304 = true then (sidinglaw16_ApplyDoes.j0 k l0 l1 a2 true) else ((sidingref15_Long.f k l1).bind fun t305 => (sidinglaw16_ApplyDoes.j0 k l0 l1 a2 t305)))
theorem sidinglaw16_ApplyDoes.mono_l : ∀ k, (∀ y0 y1 y2 y3, LeO (sidinglaw16_ApplyDoes.j0 k y0 y1 y2 y3) (sidinglaw16_ApplyDoes.j0 (k + 1) y0 y1 y2 y3))
  | 0 => fun _ _ _ _ r h => by simp [sidinglaw16_ApplyDoes.j0] at h
  | k + 1 => by
    have ih0 := sidinglaw16_ApplyDoes.mono_l k
    · intro y0 y1 y2 y3
      unfold sidinglaw16_ApplyDoes.j0
      repeat' first
      | (with_reducible exact ih0 _ _ _ _)
      | (with_reducible exact apply_Exact.mono _ _ _)
      | (with_reducible exact apply_Invert.mono _ _)
      | (with_reducible exact apply_Moved.mono _ _ _ _)
      | (with_reducible exact sidingref13_Long.mono _ _)
      | (with_reducible exact sidingref13_Same.mono _ _ _)
      | (with_reducible exact sidingref15_Long.mono _ _)
      | (with_reducible exact sidingref15_Same.mono _ _ _)
      | (with_reducible exact sidingref15_Twin.mono _ _)
      | (with_reducible exact sidingref16_Exact.mono _ _ _)
      | (with_reducible exact sidingref16_Invert.mono _ _)
      | (with_reducible exact sidingref16_Moved.mono _ _ _ _)
      | (with_reducible exact sidingref16_SameInts.mono _ _ _)
      | (with_reducible exact LeO.refl _)
      | (with_reducible exact LeO.none _)
      | (with_reducible refine LeO.ite ?_ ?_)
      | (with_reducible refine LeO.bind ?_ (fun _ => ?_))
      | exact ih0 _ _ _ _
      | exact apply_Exact.mono _ _ _
      | exact apply_Invert.mono _ _
      | exact apply_Moved.mono _ _ _ _
      | exact sidingref13_Long.mono _ _
      | exact sidingref13_Same.mono _ _ _
      | exact sidingref15_Long.mono _ _
      | exact sidingref15_Same.mono _ _ _
      | exact sidingref15_Twin.mono _ _
      | exact sidingref16_Exact.mono _ _ _
      | exact sidingref16_Invert.mono _ _
      | exact sidingref16_Moved.mono _ _ _ _
      | exact sidingref16_SameInts.mono _ _ _
      | exact LeO.none _
      | refine LeO.ite ?_ ?_
      | refine LeO.bind ?_ (fun _ => ?_)
theorem sidinglaw16_ApplyDoes.mono : ∀ a0 a1 a2 k, LeO (sidinglaw16_ApplyDoes.f k a0 a1 a2) (sidinglaw16_ApplyDoes.f (k + 1) a0 a1 a2) := by
  intro a0 a1 a2 k
  have ih0 := sidinglaw16_ApplyDoes.mono_l k
  unfold sidinglaw16_ApplyDoes.f
  repeat' first
      | (with_reducible exact ih0 _ _ _ _)
      | (with_reducible exact apply_Exact.mono _ _ _)
      | (with_reducible exact apply_Invert.mono _ _)
      | (with_reducible exact apply_Moved.mono _ _ _ _)
      | (with_reducible exact sidingref13_Long.mono _ _)
      | (with_reducible exact sidingref13_Same.mono _ _ _)
      | (with_reducible exact sidingref15_Long.mono _ _)
      | (with_reducible exact sidingref15_Same.mono _ _ _)
      | (with_reducible exact sidingref15_Twin.mono _ _)
      | (with_reducible exact sidingref16_Exact.mono _ _ _)
      | (with_reducible exact sidingref16_Invert.mono _ _)
      | (with_reducible exact sidingref16_Moved.mono _ _ _ _)
      | (with_reducible exact sidingref16_SameInts.mono _ _ _)
      | (with_reducible exact LeO.refl _)
      | (with_reducible exact LeO.none _)
      | (with_reducible refine LeO.ite ?_ ?_)
      | (with_reducible refine LeO.bind ?_ (fun _ => ?_))
      | exact ih0 _ _ _ _
      | exact apply_Exact.mono _ _ _
      | exact apply_Invert.mono _ _
      | exact apply_Moved.mono _ _ _ _
      | exact sidingref13_Long.mono _ _
      | exact sidingref13_Same.mono _ _ _
      | exact sidingref15_Long.mono _ _
      | exact sidingref15_Same.mono _ _ _
      | exact sidingref15_Twin.mono _ _
      | exact sidingref16_Exact.mono _ _ _
      | exact sidingref16_Invert.mono _ _
      | exact sidingref16_Moved.mono _ _ _ _
      | exact sidingref16_SameInts.mono _ _ _
      | exact LeO.none _
      | refine LeO.ite ?_ ?_
      | refine LeO.bind ?_ (fun _ => ?_)
set_option maxHeartbeats 8000000 in
set_option maxRecDepth 100000 in
theorem sidinglaw16_ApplyDoes.calls (k : Nat) (A0 : Option Addr) (c0 : Nat) (l0 : List ByteArray) (A1 : Option Addr) (c1 : Nat) (l1 : List (S46)) (a2 : Int) (r : Bool) (w : World) (hr0 : Kd.C Kd.string w A0 l0.length l0) (hc0 : l0.length ≤ c0) (hr1 : Kd.C k46 w A1 l1.length l1) (hc1 : l1.length ≤ c1) (h : sidinglaw16_ApplyDoes.f k l0 l1 a2 = some r) (hr_ : Aside0 (r = true)) :
  Calls Try.prog 3 #[.slice A0 l0.length c0, .slice A1 l1.length c1, .int .i64 a2] w fun e w' => e = .returned (.bool r) ∧ Below w.heap.size w w' := by
 have HR0 := Aside0.mk hr0
 have HC0 := Aside0.mk hc0
 clear hr0 hc0
 have HR1 := Aside0.mk hr1
 have HC1 := Aside0.mk hc1
 clear hr1 hc1
 have HB := Aside0.mk (Below.refl w.heap.size w)
 have H : ((sidingref13_Long.f k l0).bind fun t304 => (if t304 = true then (sidinglaw16_ApplyDoes.j0 k l0 l1 a2 true) else ((sidingref15_Long.f k l1).bind fun t305 => (sidinglaw16_ApplyDoes.j0 k l0 l1 a2 t305)))) = some r := h
 clear h
 have HC4 := Aside0.mk H
 clear H
 go_enter Try.func3, Try.ntmps3
 go_upto_region 1 with (fail)
 go_cut [28] (fun v28 wc => ∃ (kq : Nat) (x28_3 : Bool), v28 = .bool x28_3 ∧ Aside0 (sidinglaw16_ApplyDoes.j0 kq l0 l1 a2 x28_3 = some r) ∧ Aside0 (kq ≤ k) ∧ Aside0 (Below w.heap.size w wc))
 case first =>
  have H := HC4.out
  clear HC4
  replace H := Option.bind_eq_some_iff.mp H
  obtain ⟨t304, A50, H⟩ := H
  replace H : (if t304 = true then (sidinglaw16_ApplyDoes.j0 k l0 l1 a2 true) else ((sidingref15_Long.f k l1).bind fun t305 => (sidinglaw16_ApplyDoes.j0 k l0 l1 a2 t305))) = some r := H
  have A5 := Aside0.mk A50
  clear A50
  by_cases c6 : t304 = true
  ·subst c6
   have H1 : (sidinglaw16_ApplyDoes.j0 k l0 l1 a2 true) = some r := by rw [if_pos rfl] at H; exact H
   clear H
   have H := H1
   clear H1
   have H' := Aside0.mk H
   clear H
   go_wp2_with (first | ((with_reducible refine gate_callee (f := 8) rfl ?_); refine goesL_ (some 24) rfl rfl Try.func8 (by kernel_rfl) rfl #[.slice A0 l0.length c0] rfl (by (try simp only [List.map_toArray, List.map_cons, List.map_nil]); first | done | rfl | (simp only [List.length_drop, List.length_take]; rfl)) ?_; (with_reducible refine (sidingref13_Long.calls k _ _ l0 true _ ?side1 ?side2 A5.out).mono ?_); (case side1 => repeat (first | exact (Kd.C_below HR0.out HB.out) | (with_reducible refine Kd.C_alloc ?_ _) | (with_reducible refine Kd.C_drewN ?_ _) | (with_reducible refine Kd.C_drew ?_))); (case side2 => exact HC0.out); rintro e w' ⟨rfl, ⟨nd, rfl⟩⟩; refine ⟨_, rfl, ?_⟩))
   go_meet
   case rel => exact ⟨_, (true), (by first | rfl | (simp; done) | (simp [*]; done)), H', ⟨by first | omega | exact Nat.le_refl _⟩, ⟨by repeat (first | (with_reducible first | exact HB.out | apply below_alloc | apply pw_below_drewN | apply below_drew1) | exact HB.out)⟩⟩
  ·replace c6 := Bool.eq_false_iff.mpr c6
   subst c6
   have H1 : ((sidingref15_Long.f k l1).bind fun t305 => (sidinglaw16_ApplyDoes.j0 k l0 l1 a2 t305)) = some r := by rw [if_neg (show ¬ (false = true) by decide)] at H; exact H
   clear H
   have H := H1
   clear H1
   replace H := Option.bind_eq_some_iff.mp H
   obtain ⟨t305, A70, H⟩ := H
   replace H : (sidinglaw16_ApplyDoes.j0 k l0 l1 a2 t305) = some r := H
   have A7 := Aside0.mk A70
   clear A70
   have H' := Aside0.mk H
   clear H
   go_wp2_with (first | ((with_reducible refine gate_callee (f := 8) rfl ?_); refine goesL_ (some 24) rfl rfl Try.func8 (by kernel_rfl) rfl #[.slice A0 l0.length c0] rfl (by (try simp only [List.map_toArray, List.map_cons, List.map_nil]); first | done | rfl | (simp only [List.length_drop, List.length_take]; rfl)) ?_; (with_reducible refine (sidingref13_Long.calls k _ _ l0 false _ ?side1 ?side2 A5.out).mono ?_); (case side1 => repeat (first | exact (Kd.C_below HR0.out HB.out) | (with_reducible refine Kd.C_alloc ?_ _) | (with_reducible refine Kd.C_drewN ?_ _) | (with_reducible refine Kd.C_drew ?_))); (case side2 => exact HC0.out); rintro e w' ⟨rfl, ⟨nd, rfl⟩⟩; refine ⟨_, rfl, ?_⟩) | (go_at_call 9; (with_reducible refine (sidingref15_Long.calls k _ _ l1 t305 _ ?side1 ?side2 A7.out).mono ?_); (case side1 => repeat (first | exact (Kd.C_below HR1.out (by repeat (first | (with_reducible first | exact HB.out | apply below_alloc | apply pw_below_drewN | apply below_drew1) | exact HB.out))) | (with_reducible refine Kd.C_alloc ?_ _) | (with_reducible refine Kd.C_drewN ?_ _) | (with_reducible refine Kd.C_drew ?_))); (case side2 => exact HC1.out); rintro e w' ⟨rfl, ⟨nd, rfl⟩⟩))
   go_meet
   case rel => exact ⟨_, (t305), (by first | rfl | (simp; done) | (simp [*]; done)), H', ⟨by first | omega | exact Nat.le_refl _⟩, ⟨by repeat (first | (with_reducible first | exact HB.out | apply below_alloc | apply pw_below_drewN | apply below_drew1) | exact HB.out)⟩⟩
 case rest =>
  clear HC4
  try clear c1
  try clear p2
  try clear c3
  try clear c6
  obtain ⟨kq, x28_3, rfl, HA, HJ3, HB⟩ := hcut
  cases kq with
  | zero => exact absurd HA.out (by simp [sidinglaw16_ApplyDoes.j0])
  | succ kj3 =>
   have H := HA.out
   clear HA
   simp only [sidinglaw16_ApplyDoes.j0] at H
   by_cases c8 : x28_3 = true
   ·subst c8
    have H1 : (some true) = some r := by rw [if_pos rfl] at H; exact H
    clear H
    have H := H1
    clear H1
    obtain rfl := Option.some.inj H
    go_wp2
    go_ret
    exact ⟨by first | rfl | (simp [errW_none, errW_some] <;> rfl) | (simp [*, errW_none, errW_some] <;> rfl), by repeat (first | (with_reducible first | exact HB.out | apply below_alloc | apply pw_below_drewN | apply below_drew1) | exact HB.out)⟩
   ·replace c8 := Bool.eq_false_iff.mpr c8
    subst c8
    have H1 : ((some (([] : List ByteArray) : List ByteArray)).bind fun y306 => (if y306.length + l0.length < 8796093022208 then ((some (y306 ++ l0 : List ByteArray)).bind fun y309 => ((sidingref15_Twin.f kj3 l1).bind fun t312 => ((apply_Exact.f kj3 y309 t312).bind fun bt315 => ((sidingref16_Exact.f kj3 l0 l1).bind fun bt319 => ((apply_Moved.f kj3 y309 t312 a2).bind fun bt323 => ((sidingref16_Moved.f kj3 l0 l1 a2).bind fun bt330 => ((apply_Invert.f kj3 t312).bind fun bt337 => ((sidingref16_Invert.f kj3 l1).bind fun bt341 => ((sidingref13_Same.f kj3 bt315.1 bt319.1).bind fun t345 => (if t345 = true then (if bt315.2 = bt319.2 then ((sidingref13_Same.f kj3 bt323.1 bt330.1).bind fun t346 => (if t346 = true then ((sidingref16_SameInts.f kj3 bt323.2.1 bt330.2.1).bind fun t347 => (if t347 = true then (if bt323.2.2 = bt330.2.2 then ((sidingref15_Same.f kj3 bt337.1 bt341.1).bind fun t348 => (if t348 = true then (if bt337.2 = bt341.2 then ((sidingref13_Same.f kj3 y309 l0).bind fun t349 => (if t349 = true then ((sidingref15_Same.f kj3 t312 l1).bind fun t350 => (some t350)) else (some false))) else (some false)) else (some false))) else (some false)) else (some false))) else (some false))) else (some false)) else (some false))))))))))) else (none))) = some r := by rw [if_neg (show ¬ (false = true) by decide)] at H; exact H
    clear H
    have H := H1
    clear H1
    obtain ⟨y306, hy306⟩ : ∃ y_ : List ByteArray, y_ = (([] : List ByteArray)) := ⟨_, rfl⟩
    replace H : (if y306.length + l0.length < 8796093022208 then ((some (y306 ++ l0 : List ByteArray)).bind fun y309 => ((sidingref15_Twin.f kj3 l1).bind fun t312 => ((apply_Exact.f kj3 y309 t312).bind fun bt315 => ((sidingref16_Exact.f kj3 l0 l1).bind fun bt319 => ((apply_Moved.f kj3 y309 t312 a2).bind fun bt323 => ((sidingref16_Moved.f kj3 l0 l1 a2).bind fun bt330 => ((apply_Invert.f kj3 t312).bind fun bt337 => ((sidingref16_Invert.f kj3 l1).bind fun bt341 => ((sidingref13_Same.f kj3 bt315.1 bt319.1).bind fun t345 => (if t345 = true then (if bt315.2 = bt319.2 then ((sidingref13_Same.f kj3 bt323.1 bt330.1).bind fun t346 => (if t346 = true then ((sidingref16_SameInts.f kj3 bt323.2.1 bt330.2.1).bind fun t347 => (if t347 = true then (if bt323.2.2 = bt330.2.2 then ((sidingref15_Same.f kj3 bt337.1 bt341.1).bind fun t348 => (if t348 = true then (if bt337.2 = bt341.2 then ((sidingref13_Same.f kj3 y309 l0).bind fun t349 => (if t349 = true then ((sidingref15_Same.f kj3 t312 l1).bind fun t350 => (some t350)) else (some false))) else (some false)) else (some false))) else (some false)) else (some false))) else (some false))) else (some false)) else (some false))))))))))) else (none)) = some r := by first | (rw [hy306]; with_reducible exact H) | (have H2_ := (Option.bind_some _ _).symm.trans H; rw [hy306]; with_reducible exact H2_) | (have H2_ := (Option.bind_some _ _).symm.trans H; with_reducible exact H2_) | with_reducible exact H | (rw [hy306]; exact H) | exact H
    have Ny306 := Aside0.mk hy306
    clear hy306
    by_cases c9 : y306.length + l0.length < 8796093022208
    ·rw [if_pos c9] at H
     have LMc9 := Aside0.mk c9
     clear c9
     obtain ⟨y309, hy309⟩ : ∃ y_ : List ByteArray, y_ = (y306 ++ l0) := ⟨_, rfl⟩
     replace H : ((sidingref15_Twin.f kj3 l1).bind fun t312 => ((apply_Exact.f kj3 y309 t312).bind fun bt315 => ((sidingref16_Exact.f kj3 l0 l1).bind fun bt319 => ((apply_Moved.f kj3 y309 t312 a2).bind fun bt323 => ((sidingref16_Moved.f kj3 l0 l1 a2).bind fun bt330 => ((apply_Invert.f kj3 t312).bind fun bt337 => ((sidingref16_Invert.f kj3 l1).bind fun bt341 => ((sidingref13_Same.f kj3 bt315.1 bt319.1).bind fun t345 => (if t345 = true then (if bt315.2 = bt319.2 then ((sidingref13_Same.f kj3 bt323.1 bt330.1).bind fun t346 => (if t346 = true then ((sidingref16_SameInts.f kj3 bt323.2.1 bt330.2.1).bind fun t347 => (if t347 = true then (if bt323.2.2 = bt330.2.2 then ((sidingref15_Same.f kj3 bt337.1 bt341.1).bind fun t348 => (if t348 = true then (if bt337.2 = bt341.2 then ((sidingref13_Same.f kj3 y309 l0).bind fun t349 => (if t349 = true then ((sidingref15_Same.f kj3 t312 l1).bind fun t350 => (some t350)) else (some false))) else (some false)) else (some false))) else (some false)) else (some false))) else (some false))) else (some false)) else (some false)))))))))) = some r := by first | (rw [hy309]; with_reducible exact H) | (have H2_ := (Option.bind_some _ _).symm.trans H; rw [hy309]; with_reducible exact H2_) | (have H2_ := (Option.bind_some _ _).symm.trans H; with_reducible exact H2_) | with_reducible exact H | (rw [hy309]; exact H) | exact H
     have Ny309 := Aside0.mk hy309
     clear hy309
     replace H := Option.bind_eq_some_iff.mp H
     obtain ⟨t312, A100, H⟩ := H
     replace H : ((apply_Exact.f kj3 y309 t312).bind fun bt315 => ((sidingref16_Exact.f kj3 l0 l1).bind fun bt319 => ((apply_Moved.f kj3 y309 t312 a2).bind fun bt323 => ((sidingref16_Moved.f kj3 l0 l1 a2).bind fun bt330 => ((apply_Invert.f kj3 t312).bind fun bt337 => ((sidingref16_Invert.f kj3 l1).bind fun bt341 => ((sidingref13_Same.f kj3 bt315.1 bt319.1).bind fun t345 => (if t345 = true then (if bt315.2 = bt319.2 then ((sidingref13_Same.f kj3 bt323.1 bt330.1).bind fun t346 => (if t346 = true then ((sidingref16_SameInts.f kj3 bt323.2.1 bt330.2.1).bind fun t347 => (if t347 = true then (if bt323.2.2 = bt330.2.2 then ((sidingref15_Same.f kj3 bt337.1 bt341.1).bind fun t348 => (if t348 = true then (if bt337.2 = bt341.2 then ((sidingref13_Same.f kj3 y309 l0).bind fun t349 => (if t349 = true then ((sidingref15_Same.f kj3 t312 l1).bind fun t350 => (some t350)) else (some false))) else (some false)) else (some false))) else (some false)) else (some false))) else (some false))) else (some false)) else (some false))))))))) = some r := H
     have A10 := Aside0.mk A100
     clear A100
     replace H := Option.bind_eq_some_iff.mp H
     obtain ⟨⟨t315, t316⟩, A110, H⟩ := H
     replace H : ((sidingref16_Exact.f kj3 l0 l1).bind fun bt319 => ((apply_Moved.f kj3 y309 t312 a2).bind fun bt323 => ((sidingref16_Moved.f kj3 l0 l1 a2).bind fun bt330 => ((apply_Invert.f kj3 t312).bind fun bt337 => ((sidingref16_Invert.f kj3 l1).bind fun bt341 => ((sidingref13_Same.f kj3 t315 bt319.1).bind fun t345 => (if t345 = true then (if t316 = bt319.2 then ((sidingref13_Same.f kj3 bt323.1 bt330.1).bind fun t346 => (if t346 = true then ((sidingref16_SameInts.f kj3 bt323.2.1 bt330.2.1).bind fun t347 => (if t347 = true then (if bt323.2.2 = bt330.2.2 then ((sidingref15_Same.f kj3 bt337.1 bt341.1).bind fun t348 => (if t348 = true then (if bt337.2 = bt341.2 then ((sidingref13_Same.f kj3 y309 l0).bind fun t349 => (if t349 = true then ((sidingref15_Same.f kj3 t312 l1).bind fun t350 => (some t350)) else (some false))) else (some false)) else (some false))) else (some false)) else (some false))) else (some false))) else (some false)) else (some false)))))))) = some r := H
     have A11 := Aside0.mk A110
     clear A110
     replace H := Option.bind_eq_some_iff.mp H
     obtain ⟨⟨t319, t320⟩, A120, H⟩ := H
     replace H : ((apply_Moved.f kj3 y309 t312 a2).bind fun bt323 => ((sidingref16_Moved.f kj3 l0 l1 a2).bind fun bt330 => ((apply_Invert.f kj3 t312).bind fun bt337 => ((sidingref16_Invert.f kj3 l1).bind fun bt341 => ((sidingref13_Same.f kj3 t315 t319).bind fun t345 => (if t345 = true then (if t316 = t320 then ((sidingref13_Same.f kj3 bt323.1 bt330.1).bind fun t346 => (if t346 = true then ((sidingref16_SameInts.f kj3 bt323.2.1 bt330.2.1).bind fun t347 => (if t347 = true then (if bt323.2.2 = bt330.2.2 then ((sidingref15_Same.f kj3 bt337.1 bt341.1).bind fun t348 => (if t348 = true then (if bt337.2 = bt341.2 then ((sidingref13_Same.f kj3 y309 l0).bind fun t349 => (if t349 = true then ((sidingref15_Same.f kj3 t312 l1).bind fun t350 => (some t350)) else (some false))) else (some false)) else (some false))) else (some false)) else (some false))) else (some false))) else (some false)) else (some false))))))) = some r := H
     have A12 := Aside0.mk A120
     clear A120
     replace H := Option.bind_eq_some_iff.mp H
     obtain ⟨⟨t323, t324, t325⟩, A130, H⟩ := H
     replace H : ((sidingref16_Moved.f kj3 l0 l1 a2).bind fun bt330 => ((apply_Invert.f kj3 t312).bind fun bt337 => ((sidingref16_Invert.f kj3 l1).bind fun bt341 => ((sidingref13_Same.f kj3 t315 t319).bind fun t345 => (if t345 = true then (if t316 = t320 then ((sidingref13_Same.f kj3 t323 bt330.1).bind fun t346 => (if t346 = true then ((sidingref16_SameInts.f kj3 t324 bt330.2.1).bind fun t347 => (if t347 = true then (if t325 = bt330.2.2 then ((sidingref15_Same.f kj3 bt337.1 bt341.1).bind fun t348 => (if t348 = true then (if bt337.2 = bt341.2 then ((sidingref13_Same.f kj3 y309 l0).bind fun t349 => (if t349 = true then ((sidingref15_Same.f kj3 t312 l1).bind fun t350 => (some t350)) else (some false))) else (some false)) else (some false))) else (some false)) else (some false))) else (some false))) else (some false)) else (some false)))))) = some r := H
     have A13 := Aside0.mk A130
     clear A130
     replace H := Option.bind_eq_some_iff.mp H
     obtain ⟨⟨t330, t331, t332⟩, A140, H⟩ := H
     replace H : ((apply_Invert.f kj3 t312).bind fun bt337 => ((sidingref16_Invert.f kj3 l1).bind fun bt341 => ((sidingref13_Same.f kj3 t315 t319).bind fun t345 => (if t345 = true then (if t316 = t320 then ((sidingref13_Same.f kj3 t323 t330).bind fun t346 => (if t346 = true then ((sidingref16_SameInts.f kj3 t324 t331).bind fun t347 => (if t347 = true then (if t325 = t332 then ((sidingref15_Same.f kj3 bt337.1 bt341.1).bind fun t348 => (if t348 = true then (if bt337.2 = bt341.2 then ((sidingref13_Same.f kj3 y309 l0).bind fun t349 => (if t349 = true then ((sidingref15_Same.f kj3 t312 l1).bind fun t350 => (some t350)) else (some false))) else (some false)) else (some false))) else (some false)) else (some false))) else (some false))) else (some false)) else (some false))))) = some r := H
     have A14 := Aside0.mk A140
     clear A140
     replace H := Option.bind_eq_some_iff.mp H
     obtain ⟨⟨t337, t338⟩, A150, H⟩ := H
     replace H : ((sidingref16_Invert.f kj3 l1).bind fun bt341 => ((sidingref13_Same.f kj3 t315 t319).bind fun t345 => (if t345 = true then (if t316 = t320 then ((sidingref13_Same.f kj3 t323 t330).bind fun t346 => (if t346 = true then ((sidingref16_SameInts.f kj3 t324 t331).bind fun t347 => (if t347 = true then (if t325 = t332 then ((sidingref15_Same.f kj3 t337 bt341.1).bind fun t348 => (if t348 = true then (if t338 = bt341.2 then ((sidingref13_Same.f kj3 y309 l0).bind fun t349 => (if t349 = true then ((sidingref15_Same.f kj3 t312 l1).bind fun t350 => (some t350)) else (some false))) else (some false)) else (some false))) else (some false)) else (some false))) else (some false))) else (some false)) else (some false)))) = some r := H
     have A15 := Aside0.mk A150
     clear A150
     replace H := Option.bind_eq_some_iff.mp H
     obtain ⟨⟨t341, t342⟩, A160, H⟩ := H
     replace H : ((sidingref13_Same.f kj3 t315 t319).bind fun t345 => (if t345 = true then (if t316 = t320 then ((sidingref13_Same.f kj3 t323 t330).bind fun t346 => (if t346 = true then ((sidingref16_SameInts.f kj3 t324 t331).bind fun t347 => (if t347 = true then (if t325 = t332 then ((sidingref15_Same.f kj3 t337 t341).bind fun t348 => (if t348 = true then (if t338 = t342 then ((sidingref13_Same.f kj3 y309 l0).bind fun t349 => (if t349 = true then ((sidingref15_Same.f kj3 t312 l1).bind fun t350 => (some t350)) else (some false))) else (some false)) else (some false))) else (some false)) else (some false))) else (some false))) else (some false)) else (some false))) = some r := H
     have A16 := Aside0.mk A160
     clear A160
     replace H := Option.bind_eq_some_iff.mp H
     obtain ⟨t345, A170, H⟩ := H
     replace H : (if t345 = true then (if t316 = t320 then ((sidingref13_Same.f kj3 t323 t330).bind fun t346 => (if t346 = true then ((sidingref16_SameInts.f kj3 t324 t331).bind fun t347 => (if t347 = true then (if t325 = t332 then ((sidingref15_Same.f kj3 t337 t341).bind fun t348 => (if t348 = true then (if t338 = t342 then ((sidingref13_Same.f kj3 y309 l0).bind fun t349 => (if t349 = true then ((sidingref15_Same.f kj3 t312 l1).bind fun t350 => (some t350)) else (some false))) else (some false)) else (some false))) else (some false)) else (some false))) else (some false))) else (some false)) else (some false)) = some r := H
     have A17 := Aside0.mk A170
     clear A170
     by_cases c18 : t345 = true
     ·subst c18
      have H1 : (if t316 = t320 then ((sidingref13_Same.f kj3 t323 t330).bind fun t346 => (if t346 = true then ((sidingref16_SameInts.f kj3 t324 t331).bind fun t347 => (if t347 = true then (if t325 = t332 then ((sidingref15_Same.f kj3 t337 t341).bind fun t348 => (if t348 = true then (if t338 = t342 then ((sidingref13_Same.f kj3 y309 l0).bind fun t349 => (if t349 = true then ((sidingref15_Same.f kj3 t312 l1).bind fun t350 => (some t350)) else (some false))) else (some false)) else (some false))) else (some false)) else (some false))) else (some false))) else (some false)) = some r := by rw [if_pos rfl] at H; exact H
      clear H
      have H := H1
      clear H1
      by_cases c19 : t316 = t320
      ·rw [if_pos c19] at H
       have c19b0 : (t316 == t320) = true := beq_iff_eq.mpr c19
       have c19b1 : (t316 != t320) = false := bne_eq_false_iff_eq.mpr c19
       clear c19
       replace H := Option.bind_eq_some_iff.mp H
       obtain ⟨t346, A200, H⟩ := H
       replace H : (if t346 = true then ((sidingref16_SameInts.f kj3 t324 t331).bind fun t347 => (if t347 = true then (if t325 = t332 then ((sidingref15_Same.f kj3 t337 t341).bind fun t348 => (if t348 = true then (if t338 = t342 then ((sidingref13_Same.f kj3 y309 l0).bind fun t349 => (if t349 = true then ((sidingref15_Same.f kj3 t312 l1).bind fun t350 => (some t350)) else (some false))) else (some false)) else (some false))) else (some false)) else (some false))) else (some false)) = some r := H
       have A20 := Aside0.mk A200
       (try have sameA20 := (Option.some.inj (A17.out.symm.trans A20.out) : t345 = t346))
       clear A200
       by_cases c21 : t346 = true
       ·subst c21
        have H1 : ((sidingref16_SameInts.f kj3 t324 t331).bind fun t347 => (if t347 = true then (if t325 = t332 then ((sidingref15_Same.f kj3 t337 t341).bind fun t348 => (if t348 = true then (if t338 = t342 then ((sidingref13_Same.f kj3 y309 l0).bind fun t349 => (if t349 = true then ((sidingref15_Same.f kj3 t312 l1).bind fun t350 => (some t350)) else (some false))) else (some false)) else (some false))) else (some false)) else (some false))) = some r := by rw [if_pos rfl] at H; exact H
        clear H
        have H := H1
        clear H1
        replace H := Option.bind_eq_some_iff.mp H
        obtain ⟨t347, A220, H⟩ := H
        replace H : (if t347 = true then (if t325 = t332 then ((sidingref15_Same.f kj3 t337 t341).bind fun t348 => (if t348 = true then (if t338 = t342 then ((sidingref13_Same.f kj3 y309 l0).bind fun t349 => (if t349 = true then ((sidingref15_Same.f kj3 t312 l1).bind fun t350 => (some t350)) else (some false))) else (some false)) else (some false))) else (some false)) else (some false)) = some r := H
        have A22 := Aside0.mk A220
        clear A220
        by_cases c23 : t347 = true
        ·subst c23
         have H1 : (if t325 = t332 then ((sidingref15_Same.f kj3 t337 t341).bind fun t348 => (if t348 = true then (if t338 = t342 then ((sidingref13_Same.f kj3 y309 l0).bind fun t349 => (if t349 = true then ((sidingref15_Same.f kj3 t312 l1).bind fun t350 => (some t350)) else (some false))) else (some false)) else (some false))) else (some false)) = some r := by rw [if_pos rfl] at H; exact H
         clear H
         have H := H1
         clear H1
         by_cases c24 : t325 = t332
         ·rw [if_pos c24] at H
          have c24b0 : (t325 == t332) = true := beq_iff_eq.mpr c24
          have c24b1 : (t325 != t332) = false := bne_eq_false_iff_eq.mpr c24
          clear c24
          replace H := Option.bind_eq_some_iff.mp H
          obtain ⟨t348, A250, H⟩ := H
          replace H : (if t348 = true then (if t338 = t342 then ((sidingref13_Same.f kj3 y309 l0).bind fun t349 => (if t349 = true then ((sidingref15_Same.f kj3 t312 l1).bind fun t350 => (some t350)) else (some false))) else (some false)) else (some false)) = some r := H
          have A25 := Aside0.mk A250
          clear A250
          by_cases c26 : t348 = true
          ·subst c26
           have H1 : (if t338 = t342 then ((sidingref13_Same.f kj3 y309 l0).bind fun t349 => (if t349 = true then ((sidingref15_Same.f kj3 t312 l1).bind fun t350 => (some t350)) else (some false))) else (some false)) = some r := by rw [if_pos rfl] at H; exact H
           clear H
           have H := H1
           clear H1
           by_cases c27 : t338 = t342
           ·rw [if_pos c27] at H
            have c27b0 : (t338 == t342) = true := beq_iff_eq.mpr c27
            have c27b1 : (t338 != t342) = false := bne_eq_false_iff_eq.mpr c27
            clear c27
            replace H := Option.bind_eq_some_iff.mp H
            obtain ⟨t349, A280, H⟩ := H
            replace H : (if t349 = true then ((sidingref15_Same.f kj3 t312 l1).bind fun t350 => (some t350)) else (some false)) = some r := H
            have A28 := Aside0.mk A280
            (try have sameA28 := (Option.some.inj (A20.out.symm.trans A28.out) : t346 = t349))
            clear A280
            by_cases c29 : t349 = true
            ·subst c29
             have H1 : ((sidingref15_Same.f kj3 t312 l1).bind fun t350 => (some t350)) = some r := by rw [if_pos rfl] at H; exact H
             clear H
             have H := H1
             clear H1
             replace H := Option.bind_eq_some_iff.mp H
             obtain ⟨t350, A300, H⟩ := H
             replace H : (some t350) = some r := H
             have A30 := Aside0.mk A300
             (try have sameA30 := (Option.some.inj (A25.out.symm.trans A30.out) : t348 = t350))
             clear A300
             obtain rfl := Option.some.inj H
             go_wp2_with (first | ((with_reducible refine gate_dst (N := 29) rfl ?_); refine Kd.R_lit Kd.string _ 9 ?hg (N := 29) ?hd (xs := ([] : List ByteArray)) (inner := []) (ok := fun _ => True) (okp := fun _ => True) ?hr ?hp (fun _ hk => hk) trivial (Below.refl _ _) (Nat.le_refl _) (by simp) ?_; (case hd => rfl); (case hg => rfl); (case hr => first | (go_simp; done) | (go_simp; rfl)); (case hp => exact (Reps.none _ _)); intro v307 w31 ho32 hb hg_ hnew_; clear hg_ hnew_; (first | rw [← Ny306.out] at ho32 | (simp only [Int.reduceToNat] at ho32; rw [← Ny306.out] at ho32)); have n0_ := Aside0.mk (Kd.R_lower ho32 (below_size (by repeat (first | (with_reducible first | exact HB.out | apply below_alloc | apply pw_below_drewN | apply below_drew1) | exact HB.out)))); have n1_ := Aside0.mk (below_step (by repeat (first | (with_reducible first | exact HB.out | apply below_alloc | apply pw_below_drewN | apply below_drew1) | exact HB.out)) hb); clear HB; have HO308 := n0_; have HB := n1_; clear n0_ n1_; clear hb ho32) | ((with_reducible refine gate_builtin (b := .append) (xs := #[.tmp 29, .tmp 30]) rfl ?_); at_builtin; refine Kd.R_append_rows Kd.string (w0 := w) w.heap.size rfl (.tmp 29) (.tmp 30) 22 9 (.string ⟨#[]⟩) 16 rfl Try.underlying22 info9 rfl (by decide) (by omega) v307 y306 l0 _ _ _ (fun _ => True) (fun _ => False) rfl rfl ?aO ?aR (fun _ _ h => h) (fun _ h => h.elim) ?aF ?aB ?aS ?aL ?_; (case aR => repeat (first | exact (Kd.C_below HR0.out HB.out) | (with_reducible refine Kd.C_alloc ?_ _) | (with_reducible refine Kd.C_drewN ?_ _) | (with_reducible refine Kd.C_drew ?_))); (case aB => exact (by repeat (first | (with_reducible first | exact HB.out | apply below_alloc | apply pw_below_drewN | apply below_drew1) | exact HB.out))); (case aF => exact (fun _ _ => trivial)); (case aO => exact (by (with_reducible repeat (first | apply Kd.R_alloc | apply Kd.R_drewN | apply Kd.R_drew)); exact HO308.out)); (case aS => exact (below_size (by repeat (first | (with_reducible first | exact HB.out | apply below_alloc | apply pw_below_drewN | apply below_drew1) | exact HB.out)))); (case aL => have := LMc9.out; omega); intro v310 w33 ho hb hg hat; rw [← Ny309.out] at ho; have n0_ := Aside0.mk (hb); have n1_ := Aside0.mk (ho); clear HB; clear HO308; have HB := n0_; have HO311 := n1_; clear n0_ n1_; clear ho hb hg hat) | ((with_reducible refine gate_callee (f := 10) rfl ?_); refine goesL_ (some 33) rfl rfl Try.func10 (by kernel_rfl) rfl #[.slice A1 l1.length c1] rfl (by (try simp only [List.map_toArray, List.map_cons, List.map_nil]); first | done | rfl | (simp only [List.length_drop, List.length_take]; rfl)) ?_; (with_reducible refine (sidingref15_Twin.calls kj3 _ _ l1 t312 _ ?side1 ?side2 A10.out).mono ?_); (case side1 => repeat (first | exact (Kd.C_below HR1.out HB.out) | (with_reducible refine Kd.C_alloc ?_ _) | (with_reducible refine Kd.C_drewN ?_ _) | (with_reducible refine Kd.C_drew ?_))); (case side2 => exact HC1.out); rintro e w34 ⟨v313, rfl, ho0, hb⟩; refine ⟨_, rfl, ?_⟩; have n0_ := Aside0.mk (Kd.R_below (by (with_reducible repeat (first | apply Kd.R_alloc | apply Kd.R_drewN | apply Kd.R_drew)); exact HO311.out) hb); have n1_ := Aside0.mk (Kd.S_lower (Kd.S_new' ho0 (Kd.R_lt (by (with_reducible repeat (first | apply Kd.R_alloc | apply Kd.R_drewN | apply Kd.R_drew)); exact HO311.out))) (below_size (by repeat (first | (with_reducible first | exact HB.out | apply below_alloc | apply pw_below_drewN | apply below_drew1) | exact HB.out)))); have n2_ := Aside0.mk (below_step (by repeat (first | (with_reducible first | exact HB.out | apply below_alloc | apply pw_below_drewN | apply below_drew1) | exact HB.out)) hb); clear HO311; clear HB; have HO311 := n0_; have HO314 := n1_; have HB := n2_; clear n0_ n1_ n2_; (try clear hb); (try clear hb2); (try clear hk); (try clear hi); (try clear ho0); obtain ⟨Ao35, co35, eo35⟩ := Kd.R_slice HO311.out; subst eo35; obtain ⟨Ao36, co36, eo36⟩ := Kd.S_slice HO314.out; subst eo36) | ((with_reducible refine gate_callee (f := 11) rfl ?_); refine goesL_ (some 37) rfl rfl Try.func11 (by kernel_rfl) rfl #[.slice Ao35 y309.length co35, .slice Ao36 t312.length co36] rfl (by (try simp only [List.map_toArray, List.map_cons, List.map_nil]); first | done | rfl | (simp only [List.length_drop, List.length_take]; rfl)) ?_; (with_reducible refine (apply_Exact.calls kj3 _ _ y309 _ _ t312 t315 t316 _ ?side1 ?side2 ?side3 ?side4 A11.out).mono ?_); (case side1 => repeat (first | exact (Kd.R_reads' HO311.out).2.2 | (with_reducible refine Kd.C_alloc ?_ _) | (with_reducible refine Kd.C_drewN ?_ _) | (with_reducible refine Kd.C_drew ?_))); (case side2 => exact (Kd.R_reads' HO311.out).2.1); (case side3 => repeat (first | exact (Kd.S_reads' HO314.out).2.2 | (with_reducible refine Kd.C_alloc ?_ _) | (with_reducible refine Kd.C_drewN ?_ _) | (with_reducible refine Kd.C_drew ?_))); (case side4 => exact (Kd.S_reads' HO314.out).2.1); rintro e w37 ⟨v317, rfl, ho0, hb⟩; refine ⟨_, rfl, ?_⟩; have n0_ := Aside0.mk (Kd.R_elder' (by (with_reducible repeat (first | apply Kd.R_alloc | apply Kd.R_drewN | apply Kd.R_drew)); exact HO311.out) (Kd.R_base ho0) hb); have n1_ := Aside0.mk (Kd.S_elder' (by (with_reducible repeat (first | apply Kd.S_alloc | apply Kd.S_drewN | apply Kd.S_drew)); exact HO314.out) (Kd.R_base ho0) hb); have n2_ := Aside0.mk (Kd.R_lower (Kd.R_new' ho0 (Kd.R_lt (by (with_reducible repeat (first | apply Kd.R_alloc | apply Kd.R_drewN | apply Kd.R_drew)); exact HO311.out))) (below_size (by repeat (first | (with_reducible first | exact HB.out | apply below_alloc | apply pw_below_drewN | apply below_drew1) | exact HB.out)))); have n3_ := Aside0.mk (below_step (by repeat (first | (with_reducible first | exact HB.out | apply below_alloc | apply pw_below_drewN | apply below_drew1) | exact HB.out)) hb); clear HO311; clear HO314; clear HB; have HO311 := n0_; have HO314 := n1_; have HO318 := n2_; have HB := n3_; clear n0_ n1_ n2_ n3_; (try clear hb); (try clear hb2); (try clear hk); (try clear hi); (try clear ho0)) | ((with_reducible refine gate_callee (f := 12) rfl ?_); refine goesL_ (some 43) rfl rfl Try.func12 (by kernel_rfl) rfl #[.slice A0 l0.length c0, .slice A1 l1.length c1] rfl (by (try simp only [List.map_toArray, List.map_cons, List.map_nil]); first | done | rfl | (simp only [List.length_drop, List.length_take]; rfl)) ?_; (with_reducible refine (sidingref16_Exact.calls kj3 _ _ l0 _ _ l1 t319 t320 _ ?side1 ?side2 ?side3 ?side4 A12.out).mono ?_); (case side1 => repeat (first | exact (Kd.C_below HR0.out HB.out) | (with_reducible refine Kd.C_alloc ?_ _) | (with_reducible refine Kd.C_drewN ?_ _) | (with_reducible refine Kd.C_drew ?_))); (case side2 => exact HC0.out); (case side3 => repeat (first | exact (Kd.C_below HR1.out HB.out) | (with_reducible refine Kd.C_alloc ?_ _) | (with_reducible refine Kd.C_drewN ?_ _) | (with_reducible refine Kd.C_drew ?_))); (case side4 => exact HC1.out); rintro e w38 ⟨v321, rfl, ho0, hb⟩; refine ⟨_, rfl, ?_⟩; have n0_ := Aside0.mk (Kd.R_elder' (by (with_reducible repeat (first | apply Kd.R_alloc | apply Kd.R_drewN | apply Kd.R_drew)); exact HO311.out) (Kd.R_base ho0) hb); have n1_ := Aside0.mk (Kd.S_elder' (by (with_reducible repeat (first | apply Kd.S_alloc | apply Kd.S_drewN | apply Kd.S_drew)); exact HO314.out) (Kd.R_base ho0) hb); have n2_ := Aside0.mk (Kd.R_elder' (by (with_reducible repeat (first | apply Kd.R_alloc | apply Kd.R_drewN | apply Kd.R_drew)); exact HO318.out) (Kd.R_base ho0) hb); have n3_ := Aside0.mk (Kd.R_lower (Kd.R_new' (Kd.R_new' ho0 (Kd.R_lt (by (with_reducible repeat (first | apply Kd.R_alloc | apply Kd.R_drewN | apply Kd.R_drew)); exact HO311.out))) (Kd.R_lt (by (with_reducible repeat (first | apply Kd.R_alloc | apply Kd.R_drewN | apply Kd.R_drew)); exact HO318.out))) (below_size (by repeat (first | (with_reducible first | exact HB.out | apply below_alloc | apply pw_below_drewN | apply below_drew1) | exact HB.out)))); have n4_ := Aside0.mk (below_step (by repeat (first | (with_reducible first | exact HB.out | apply below_alloc | apply pw_below_drewN | apply below_drew1) | exact HB.out)) hb); clear HO311; clear HO314; clear HO318; clear HB; have HO311 := n0_; have HO314 := n1_; have HO318 := n2_; have HO322 := n3_; have HB := n4_; clear n0_ n1_ n2_ n3_ n4_; (try clear hb); (try clear hb2); (try clear hk); (try clear hi); (try clear ho0)) | ((with_reducible refine gate_callee (f := 13) rfl ?_); refine goesL_ (some 50) rfl rfl Try.func13 (by kernel_rfl) rfl #[.slice Ao35 y309.length co35, .slice Ao36 t312.length co36, .int .i64 a2] rfl (by (try simp only [List.map_toArray, List.map_cons, List.map_nil]); first | done | rfl | (simp only [List.length_drop, List.length_take]; rfl)) ?_; (with_reducible refine (apply_Moved.calls kj3 _ _ y309 _ _ t312 a2 t323 t324 t325 _ ?side1 ?side2 ?side3 ?side4 A13.out).mono ?_); (case side1 => repeat (first | exact (Kd.R_reads' HO311.out).2.2 | (with_reducible refine Kd.C_alloc ?_ _) | (with_reducible refine Kd.C_drewN ?_ _) | (with_reducible refine Kd.C_drew ?_))); (case side2 => exact (Kd.R_reads' HO311.out).2.1); (case side3 => repeat (first | exact (Kd.S_reads' HO314.out).2.2 | (with_reducible refine Kd.C_alloc ?_ _) | (with_reducible refine Kd.C_drewN ?_ _) | (with_reducible refine Kd.C_drew ?_))); (case side4 => exact (Kd.S_reads' HO314.out).2.1); rintro e w39 ⟨v326, v328, rfl, ho0, ho1, hb⟩; refine ⟨_, rfl, ?_⟩; have n0_ := Aside0.mk (Kd.R_elder' (by (with_reducible repeat (first | apply Kd.R_alloc | apply Kd.R_drewN | apply Kd.R_drew)); exact HO311.out) (Kd.R_base ho0) hb); have n1_ := Aside0.mk (Kd.S_elder' (by (with_reducible repeat (first | apply Kd.S_alloc | apply Kd.S_drewN | apply Kd.S_drew)); exact HO314.out) (Kd.R_base ho0) hb); have n2_ := Aside0.mk (Kd.R_elder' (by (with_reducible repeat (first | apply Kd.R_alloc | apply Kd.R_drewN | apply Kd.R_drew)); exact HO318.out) (Kd.R_base ho0) hb); have n3_ := Aside0.mk (Kd.R_elder' (by (with_reducible repeat (first | apply Kd.R_alloc | apply Kd.R_drewN | apply Kd.R_drew)); exact HO322.out) (Kd.R_base ho0) hb); have n4_ := Aside0.mk (Kd.R_lower (Kd.R_new' (Kd.R_new' (Kd.R_new' ho0 (Kd.R_lt (by (with_reducible repeat (first | apply Kd.R_alloc | apply Kd.R_drewN | apply Kd.R_drew)); exact HO311.out))) (Kd.R_lt (by (with_reducible repeat (first | apply Kd.R_alloc | apply Kd.R_drewN | apply Kd.R_drew)); exact HO318.out))) (Kd.R_lt (by (with_reducible repeat (first | apply Kd.R_alloc | apply Kd.R_drewN | apply Kd.R_drew)); exact HO322.out))) (below_size (by repeat (first | (with_reducible first | exact HB.out | apply below_alloc | apply pw_below_drewN | apply below_drew1) | exact HB.out)))); have n5_ := Aside0.mk (Kd.R_lower ho1 (below_size (by repeat (first | (with_reducible first | exact HB.out | apply below_alloc | apply pw_below_drewN | apply below_drew1) | exact HB.out)))); have n6_ := Aside0.mk (below_step (by repeat (first | (with_reducible first | exact HB.out | apply below_alloc | apply pw_below_drewN | apply below_drew1) | exact HB.out)) hb); clear HO311; clear HO314; clear HO318; clear HO322; clear HB; have HO311 := n0_; have HO314 := n1_; have HO318 := n2_; have HO322 := n3_; have HO327 := n4_; have HO329 := n5_; have HB := n6_; clear n0_ n1_ n2_ n3_ n4_ n5_ n6_; (try clear hb); (try clear hb2); (try clear hk); (try clear hi); (try clear ho0); (try clear ho1)) | ((with_reducible refine gate_callee (f := 14) rfl ?_); refine goesL_ (some 58) rfl rfl Try.func14 (by kernel_rfl) rfl #[.slice A0 l0.length c0, .slice A1 l1.length c1, .int .i64 a2] rfl (by (try simp only [List.map_toArray, List.map_cons, List.map_nil]); first | done | rfl | (simp only [List.length_drop, List.length_take]; rfl)) ?_; (with_reducible refine (sidingref16_Moved.calls kj3 _ _ l0 _ _ l1 a2 t330 t331 t332 _ ?side1 ?side2 ?side3 ?side4 A14.out).mono ?_); (case side1 => repeat (first | exact (Kd.C_below HR0.out HB.out) | (with_reducible refine Kd.C_alloc ?_ _) | (with_reducible refine Kd.C_drewN ?_ _) | (with_reducible refine Kd.C_drew ?_))); (case side2 => exact HC0.out); (case side3 => repeat (first | exact (Kd.C_below HR1.out HB.out) | (with_reducible refine Kd.C_alloc ?_ _) | (with_reducible refine Kd.C_drewN ?_ _) | (with_reducible refine Kd.C_drew ?_))); (case side4 => exact HC1.out); rintro e w40 ⟨v333, v335, rfl, ho0, ho1, hb⟩; refine ⟨_, rfl, ?_⟩; have n0_ := Aside0.mk (Kd.R_elder' (by (with_reducible repeat (first | apply Kd.R_alloc | apply Kd.R_drewN | apply Kd.R_drew)); exact HO311.out) (Kd.R_base ho0) hb); have n1_ := Aside0.mk (Kd.S_elder' (by (with_reducible repeat (first | apply Kd.S_alloc | apply Kd.S_drewN | apply Kd.S_drew)); exact HO314.out) (Kd.R_base ho0) hb); have n2_ := Aside0.mk (Kd.R_elder' (by (with_reducible repeat (first | apply Kd.R_alloc | apply Kd.R_drewN | apply Kd.R_drew)); exact HO318.out) (Kd.R_base ho0) hb); have n3_ := Aside0.mk (Kd.R_elder' (by (with_reducible repeat (first | apply Kd.R_alloc | apply Kd.R_drewN | apply Kd.R_drew)); exact HO322.out) (Kd.R_base ho0) hb); have n4_ := Aside0.mk (Kd.R_elder' (by (with_reducible repeat (first | apply Kd.R_alloc | apply Kd.R_drewN | apply Kd.R_drew)); exact HO327.out) (Kd.R_base ho0) hb); have n5_ := Aside0.mk (Kd.R_elder' (by (with_reducible repeat (first | apply Kd.R_alloc | apply Kd.R_drewN | apply Kd.R_drew)); exact HO329.out) (Kd.R_base ho1) hb); have n6_ := Aside0.mk (Kd.R_lower (Kd.R_new' (Kd.R_new' (Kd.R_new' (Kd.R_new' ho0 (Kd.R_lt (by (with_reducible repeat (first | apply Kd.R_alloc | apply Kd.R_drewN | apply Kd.R_drew)); exact HO311.out))) (Kd.R_lt (by (with_reducible repeat (first | apply Kd.R_alloc | apply Kd.R_drewN | apply Kd.R_drew)); exact HO318.out))) (Kd.R_lt (by (with_reducible repeat (first | apply Kd.R_alloc | apply Kd.R_drewN | apply Kd.R_drew)); exact HO322.out))) (Kd.R_lt (by (with_reducible repeat (first | apply Kd.R_alloc | apply Kd.R_drewN | apply Kd.R_drew)); exact HO327.out))) (below_size (by repeat (first | (with_reducible first | exact HB.out | apply below_alloc | apply pw_below_drewN | apply below_drew1) | exact HB.out)))); have n7_ := Aside0.mk (Kd.R_lower (Kd.R_new' ho1 (Kd.R_lt (by (with_reducible repeat (first | apply Kd.R_alloc | apply Kd.R_drewN | apply Kd.R_drew)); exact HO329.out))) (below_size (by repeat (first | (with_reducible first | exact HB.out | apply below_alloc | apply pw_below_drewN | apply below_drew1) | exact HB.out)))); have n8_ := Aside0.mk (below_step (by repeat (first | (with_reducible first | exact HB.out | apply below_alloc | apply pw_below_drewN | apply below_drew1) | exact HB.out)) hb); clear HO311; clear HO314; clear HO318; clear HO322; clear HO327; clear HO329; clear HB; have HO311 := n0_; have HO314 := n1_; have HO318 := n2_; have HO322 := n3_; have HO327 := n4_; have HO329 := n5_; have HO334 := n6_; have HO336 := n7_; have HB := n8_; clear n0_ n1_ n2_ n3_ n4_ n5_ n6_ n7_ n8_; (try clear hb); (try clear hb2); (try clear hk); (try clear hi); (try clear ho0); (try clear ho1)) | ((with_reducible refine gate_callee (f := 15) rfl ?_); refine goesL_ (some 64) rfl rfl Try.func15 (by kernel_rfl) rfl #[.slice Ao36 t312.length co36] rfl (by (try simp only [List.map_toArray, List.map_cons, List.map_nil]); first | done | rfl | (simp only [List.length_drop, List.length_take]; rfl)) ?_; (with_reducible refine (apply_Invert.calls kj3 _ _ t312 t337 t338 _ ?side1 ?side2 A15.out).mono ?_); (case side1 => repeat (first | exact (Kd.S_reads' HO314.out).2.2 | (with_reducible refine Kd.C_alloc ?_ _) | (with_reducible refine Kd.C_drewN ?_ _) | (with_reducible refine Kd.C_drew ?_))); (case side2 => exact (Kd.S_reads' HO314.out).2.1); rintro e w41 ⟨v339, rfl, ho0, hb⟩; refine ⟨_, rfl, ?_⟩; have n0_ := Aside0.mk (Kd.R_below (by (with_reducible repeat (first | apply Kd.R_alloc | apply Kd.R_drewN | apply Kd.R_drew)); exact HO311.out) hb); have n1_ := Aside0.mk (Kd.S_elder' (by (with_reducible repeat (first | apply Kd.S_alloc | apply Kd.S_drewN | apply Kd.S_drew)); exact HO314.out) (Kd.S_base ho0) hb); have n2_ := Aside0.mk (Kd.R_below (by (with_reducible repeat (first | apply Kd.R_alloc | apply Kd.R_drewN | apply Kd.R_drew)); exact HO318.out) hb); have n3_ := Aside0.mk (Kd.R_below (by (with_reducible repeat (first | apply Kd.R_alloc | apply Kd.R_drewN | apply Kd.R_drew)); exact HO322.out) hb); have n4_ := Aside0.mk (Kd.R_below (by (with_reducible repeat (first | apply Kd.R_alloc | apply Kd.R_drewN | apply Kd.R_drew)); exact HO327.out) hb); have n5_ := Aside0.mk (Kd.R_below (by (with_reducible repeat (first | apply Kd.R_alloc | apply Kd.R_drewN | apply Kd.R_drew)); exact HO329.out) hb); have n6_ := Aside0.mk (Kd.R_below (by (with_reducible repeat (first | apply Kd.R_alloc | apply Kd.R_drewN | apply Kd.R_drew)); exact HO334.out) hb); have n7_ := Aside0.mk (Kd.R_below (by (with_reducible repeat (first | apply Kd.R_alloc | apply Kd.R_drewN | apply Kd.R_drew)); exact HO336.out) hb); have n8_ := Aside0.mk (Kd.S_lower (Kd.S_new' (Kd.S_new' (Kd.S_new' (Kd.S_new' (Kd.S_new' (Kd.S_new' ho0 (Kd.R_lt (by (with_reducible repeat (first | apply Kd.R_alloc | apply Kd.R_drewN | apply Kd.R_drew)); exact HO311.out))) (Kd.S_lt (by (with_reducible repeat (first | apply Kd.S_alloc | apply Kd.S_drewN | apply Kd.S_drew)); exact HO314.out))) (Kd.R_lt (by (with_reducible repeat (first | apply Kd.R_alloc | apply Kd.R_drewN | apply Kd.R_drew)); exact HO318.out))) (Kd.R_lt (by (with_reducible repeat (first | apply Kd.R_alloc | apply Kd.R_drewN | apply Kd.R_drew)); exact HO322.out))) (Kd.R_lt (by (with_reducible repeat (first | apply Kd.R_alloc | apply Kd.R_drewN | apply Kd.R_drew)); exact HO327.out))) (Kd.R_lt (by (with_reducible repeat (first | apply Kd.R_alloc | apply Kd.R_drewN | apply Kd.R_drew)); exact HO334.out))) (below_size (by repeat (first | (with_reducible first | exact HB.out | apply below_alloc | apply pw_below_drewN | apply below_drew1) | exact HB.out)))); have n9_ := Aside0.mk (below_step (by repeat (first | (with_reducible first | exact HB.out | apply below_alloc | apply pw_below_drewN | apply below_drew1) | exact HB.out)) hb); clear HO311; clear HO314; clear HO318; clear HO322; clear HO327; clear HO329; clear HO334; clear HO336; clear HB; have HO311 := n0_; have HO314 := n1_; have HO318 := n2_; have HO322 := n3_; have HO327 := n4_; have HO329 := n5_; have HO334 := n6_; have HO336 := n7_; have HO340 := n8_; have HB := n9_; clear n0_ n1_ n2_ n3_ n4_ n5_ n6_ n7_ n8_ n9_; (try clear hb); (try clear hb2); (try clear hk); (try clear hi); (try clear ho0)) | ((with_reducible refine gate_callee (f := 16) rfl ?_); refine goesL_ (some 69) rfl rfl Try.func16 (by kernel_rfl) rfl #[.slice A1 l1.length c1] rfl (by (try simp only [List.map_toArray, List.map_cons, List.map_nil]); first | done | rfl | (simp only [List.length_drop, List.length_take]; rfl)) ?_; (with_reducible refine (sidingref16_Invert.calls kj3 _ _ l1 t341 t342 _ ?side1 ?side2 A16.out).mono ?_); (case side1 => repeat (first | exact (Kd.C_below HR1.out HB.out) | (with_reducible refine Kd.C_alloc ?_ _) | (with_reducible refine Kd.C_drewN ?_ _) | (with_reducible refine Kd.C_drew ?_))); (case side2 => exact HC1.out); rintro e w42 ⟨v343, rfl, ho0, hb⟩; refine ⟨_, rfl, ?_⟩; have n0_ := Aside0.mk (Kd.R_below (by (with_reducible repeat (first | apply Kd.R_alloc | apply Kd.R_drewN | apply Kd.R_drew)); exact HO311.out) hb); have n1_ := Aside0.mk (Kd.S_elder' (by (with_reducible repeat (first | apply Kd.S_alloc | apply Kd.S_drewN | apply Kd.S_drew)); exact HO314.out) (Kd.S_base ho0) hb); have n2_ := Aside0.mk (Kd.R_below (by (with_reducible repeat (first | apply Kd.R_alloc | apply Kd.R_drewN | apply Kd.R_drew)); exact HO318.out) hb); have n3_ := Aside0.mk (Kd.R_below (by (with_reducible repeat (first | apply Kd.R_alloc | apply Kd.R_drewN | apply Kd.R_drew)); exact HO322.out) hb); have n4_ := Aside0.mk (Kd.R_below (by (with_reducible repeat (first | apply Kd.R_alloc | apply Kd.R_drewN | apply Kd.R_drew)); exact HO327.out) hb); have n5_ := Aside0.mk (Kd.R_below (by (with_reducible repeat (first | apply Kd.R_alloc | apply Kd.R_drewN | apply Kd.R_drew)); exact HO329.out) hb); have n6_ := Aside0.mk (Kd.R_below (by (with_reducible repeat (first | apply Kd.R_alloc | apply Kd.R_drewN | apply Kd.R_drew)); exact HO334.out) hb); have n7_ := Aside0.mk (Kd.R_below (by (with_reducible repeat (first | apply Kd.R_alloc | apply Kd.R_drewN | apply Kd.R_drew)); exact HO336.out) hb); have n8_ := Aside0.mk (Kd.S_elder' (by (with_reducible repeat (first | apply Kd.S_alloc | apply Kd.S_drewN | apply Kd.S_drew)); exact HO340.out) (Kd.S_base ho0) hb); have n9_ := Aside0.mk (Kd.S_lower (Kd.S_new' (Kd.S_new' (Kd.S_new' (Kd.S_new' (Kd.S_new' (Kd.S_new' (Kd.S_new' ho0 (Kd.R_lt (by (with_reducible repeat (first | apply Kd.R_alloc | apply Kd.R_drewN | apply Kd.R_drew)); exact HO311.out))) (Kd.S_lt (by (with_reducible repeat (first | apply Kd.S_alloc | apply Kd.S_drewN | apply Kd.S_drew)); exact HO314.out))) (Kd.R_lt (by (with_reducible repeat (first | apply Kd.R_alloc | apply Kd.R_drewN | apply Kd.R_drew)); exact HO318.out))) (Kd.R_lt (by (with_reducible repeat (first | apply Kd.R_alloc | apply Kd.R_drewN | apply Kd.R_drew)); exact HO322.out))) (Kd.R_lt (by (with_reducible repeat (first | apply Kd.R_alloc | apply Kd.R_drewN | apply Kd.R_drew)); exact HO327.out))) (Kd.R_lt (by (with_reducible repeat (first | apply Kd.R_alloc | apply Kd.R_drewN | apply Kd.R_drew)); exact HO334.out))) (Kd.S_lt (by (with_reducible repeat (first | apply Kd.S_alloc | apply Kd.S_drewN | apply Kd.S_drew)); exact HO340.out))) (below_size (by repeat (first | (with_reducible first | exact HB.out | apply below_alloc | apply pw_below_drewN | apply below_drew1) | exact HB.out)))); have n10_ := Aside0.mk (below_step (by repeat (first | (with_reducible first | exact HB.out | apply below_alloc | apply pw_below_drewN | apply below_drew1) | exact HB.out)) hb); clear HO311; clear HO314; clear HO318; clear HO322; clear HO327; clear HO329; clear HO334; clear HO336; clear HO340; clear HB; have HO311 := n0_; have HO314 := n1_; have HO318 := n2_; have HO322 := n3_; have HO327 := n4_; have HO329 := n5_; have HO334 := n6_; have HO336 := n7_; have HO340 := n8_; have HO344 := n9_; have HB := n10_; clear n0_ n1_ n2_ n3_ n4_ n5_ n6_ n7_ n8_ n9_ n10_; (try clear hb); (try clear hb2); (try clear hk); (try clear hi); (try clear ho0); obtain ⟨Ao43, co43, eo43⟩ := Kd.R_slice HO318.out; subst eo43; obtain ⟨Ao44, co44, eo44⟩ := Kd.R_slice HO322.out; subst eo44) | ((with_reducible refine gate_callee (f := 17) rfl ?_); refine goesL_ (some 74) rfl rfl Try.func17 (by kernel_rfl) rfl #[.slice Ao43 t315.length co43, .slice Ao44 t319.length co44] rfl (by (try simp only [List.map_toArray, List.map_cons, List.map_nil]); first | done | rfl | (simp only [List.length_drop, List.length_take]; rfl)) ?_; (with_reducible refine (sidingref13_Same.calls kj3 _ _ t315 _ _ t319 true _ ?side1 ?side2 ?side3 ?side4 A17.out).mono ?_); (case side1 => repeat (first | exact (Kd.R_reads' HO318.out).2.2 | (with_reducible refine Kd.C_alloc ?_ _) | (with_reducible refine Kd.C_drewN ?_ _) | (with_reducible refine Kd.C_drew ?_))); (case side2 => exact (Kd.R_reads' HO318.out).2.1); (case side3 => repeat (first | exact (Kd.R_reads' HO322.out).2.2 | (with_reducible refine Kd.C_alloc ?_ _) | (with_reducible refine Kd.C_drewN ?_ _) | (with_reducible refine Kd.C_drew ?_))); (case side4 => exact (Kd.R_reads' HO322.out).2.1); rintro e w' ⟨rfl, ⟨nd, rfl⟩⟩; refine ⟨_, rfl, ?_⟩; obtain ⟨Ao45, co45, eo45⟩ := Kd.R_slice HO327.out; subst eo45; obtain ⟨Ao46, co46, eo46⟩ := Kd.R_slice HO334.out; subst eo46) | (go_at_call 17; (with_reducible refine (sidingref13_Same.calls kj3 _ _ t323 _ _ t330 true _ ?side1 ?side2 ?side3 ?side4 A20.out).mono ?_); (case side1 => repeat (first | exact (Kd.R_reads' HO327.out).2.2 | (with_reducible refine Kd.C_alloc ?_ _) | (with_reducible refine Kd.C_drewN ?_ _) | (with_reducible refine Kd.C_drew ?_))); (case side2 => exact (Kd.R_reads' HO327.out).2.1); (case side3 => repeat (first | exact (Kd.R_reads' HO334.out).2.2 | (with_reducible refine Kd.C_alloc ?_ _) | (with_reducible refine Kd.C_drewN ?_ _) | (with_reducible refine Kd.C_drew ?_))); (case side4 => exact (Kd.R_reads' HO334.out).2.1); rintro e w' ⟨rfl, ⟨nd, rfl⟩⟩; obtain ⟨Ao47, co47, eo47⟩ := Kd.R_slice HO329.out; subst eo47; obtain ⟨Ao48, co48, eo48⟩ := Kd.R_slice HO336.out; subst eo48) | (go_at_call 18; (with_reducible refine (sidingref16_SameInts.calls kj3 _ _ t324 _ _ t331 true _ ?side1 ?side2 ?side3 ?side4 A22.out).mono ?_); (case side1 => repeat (first | exact (Kd.R_reads' HO329.out).2.2 | (with_reducible refine Kd.C_alloc ?_ _) | (with_reducible refine Kd.C_drewN ?_ _) | (with_reducible refine Kd.C_drew ?_))); (case side2 => exact (Kd.R_reads' HO329.out).2.1); (case side3 => repeat (first | exact (Kd.R_reads' HO336.out).2.2 | (with_reducible refine Kd.C_alloc ?_ _) | (with_reducible refine Kd.C_drewN ?_ _) | (with_reducible refine Kd.C_drew ?_))); (case side4 => exact (Kd.R_reads' HO336.out).2.1); rintro e w' ⟨rfl, ⟨nd, rfl⟩⟩; obtain ⟨Ao49, co49, eo49⟩ := Kd.S_slice HO340.out; subst eo49; obtain ⟨Ao50, co50, eo50⟩ := Kd.S_slice HO344.out; subst eo50) | (go_at_call 19; (with_reducible refine (sidingref15_Same.calls kj3 _ _ t337 _ _ t341 true _ ?side1 ?side2 ?side3 ?side4 A25.out).mono ?_); (case side1 => repeat (first | exact (Kd.S_reads' HO340.out).2.2 | (with_reducible refine Kd.C_alloc ?_ _) | (with_reducible refine Kd.C_drewN ?_ _) | (with_reducible refine Kd.C_drew ?_))); (case side2 => exact (Kd.S_reads' HO340.out).2.1); (case side3 => repeat (first | exact (Kd.S_reads' HO344.out).2.2 | (with_reducible refine Kd.C_alloc ?_ _) | (with_reducible refine Kd.C_drewN ?_ _) | (with_reducible refine Kd.C_drew ?_))); (case side4 => exact (Kd.S_reads' HO344.out).2.1); rintro e w51 ⟨rfl, hb⟩; have n0_ := Aside0.mk (Kd.R_below (by (with_reducible repeat (first | apply Kd.R_alloc | apply Kd.R_drewN | apply Kd.R_drew)); exact HO311.out) hb); have n1_ := Aside0.mk (Kd.S_below (by (with_reducible repeat (first | apply Kd.S_alloc | apply Kd.S_drewN | apply Kd.S_drew)); exact HO314.out) hb); have n2_ := Aside0.mk (Kd.R_below (by (with_reducible repeat (first | apply Kd.R_alloc | apply Kd.R_drewN | apply Kd.R_drew)); exact HO318.out) hb); have n3_ := Aside0.mk (Kd.R_below (by (with_reducible repeat (first | apply Kd.R_alloc | apply Kd.R_drewN | apply Kd.R_drew)); exact HO322.out) hb); have n4_ := Aside0.mk (Kd.R_below (by (with_reducible repeat (first | apply Kd.R_alloc | apply Kd.R_drewN | apply Kd.R_drew)); exact HO327.out) hb); have n5_ := Aside0.mk (Kd.R_below (by (with_reducible repeat (first | apply Kd.R_alloc | apply Kd.R_drewN | apply Kd.R_drew)); exact HO329.out) hb); have n6_ := Aside0.mk (Kd.R_below (by (with_reducible repeat (first | apply Kd.R_alloc | apply Kd.R_drewN | apply Kd.R_drew)); exact HO334.out) hb); have n7_ := Aside0.mk (Kd.R_below (by (with_reducible repeat (first | apply Kd.R_alloc | apply Kd.R_drewN | apply Kd.R_drew)); exact HO336.out) hb); have n8_ := Aside0.mk (Kd.S_below (by (with_reducible repeat (first | apply Kd.S_alloc | apply Kd.S_drewN | apply Kd.S_drew)); exact HO340.out) hb); have n9_ := Aside0.mk (Kd.S_below (by (with_reducible repeat (first | apply Kd.S_alloc | apply Kd.S_drewN | apply Kd.S_drew)); exact HO344.out) hb); have n10_ := Aside0.mk (below_step (by repeat (first | (with_reducible first | exact HB.out | apply below_alloc | apply pw_below_drewN | apply below_drew1) | exact HB.out)) hb); clear HO311; clear HO314; clear HO318; clear HO322; clear HO327; clear HO329; clear HO334; clear HO336; clear HO340; clear HO344; clear HB; have HO311 := n0_; have HO314 := n1_; have HO318 := n2_; have HO322 := n3_; have HO327 := n4_; have HO329 := n5_; have HO334 := n6_; have HO336 := n7_; have HO340 := n8_; have HO344 := n9_; have HB := n10_; clear n0_ n1_ n2_ n3_ n4_ n5_ n6_ n7_ n8_ n9_ n10_; (try clear hb); (try clear hb2); (try clear hk); (try clear hi)) | (go_at_call 17; (with_reducible refine (sidingref13_Same.calls kj3 _ _ y309 _ _ l0 true _ ?side1 ?side2 ?side3 ?side4 A28.out).mono ?_); (case side1 => repeat (first | exact (Kd.R_reads' HO311.out).2.2 | (with_reducible refine Kd.C_alloc ?_ _) | (with_reducible refine Kd.C_drewN ?_ _) | (with_reducible refine Kd.C_drew ?_))); (case side2 => exact (Kd.R_reads' HO311.out).2.1); (case side3 => repeat (first | exact (Kd.C_below HR0.out HB.out) | (with_reducible refine Kd.C_alloc ?_ _) | (with_reducible refine Kd.C_drewN ?_ _) | (with_reducible refine Kd.C_drew ?_))); (case side4 => exact HC0.out); rintro e w' ⟨rfl, ⟨nd, rfl⟩⟩) | (go_at_call 19; (with_reducible refine (sidingref15_Same.calls kj3 _ _ t312 _ _ l1 t350 _ ?side1 ?side2 ?side3 ?side4 A30.out).mono ?_); (case side1 => repeat (first | exact (Kd.S_reads' HO314.out).2.2 | (with_reducible refine Kd.C_alloc ?_ _) | (with_reducible refine Kd.C_drewN ?_ _) | (with_reducible refine Kd.C_drew ?_))); (case side2 => exact (Kd.S_reads' HO314.out).2.1); (case side3 => repeat (first | exact (Kd.C_below HR1.out (by repeat (first | (with_reducible first | exact HB.out | apply below_alloc | apply pw_below_drewN | apply below_drew1) | exact HB.out))) | (with_reducible refine Kd.C_alloc ?_ _) | (with_reducible refine Kd.C_drewN ?_ _) | (with_reducible refine Kd.C_drew ?_))); (case side4 => exact HC1.out); rintro e w52 ⟨rfl, hb⟩; have n0_ := Aside0.mk (Kd.R_below (by (with_reducible repeat (first | apply Kd.R_alloc | apply Kd.R_drewN | apply Kd.R_drew)); exact HO311.out) hb); have n1_ := Aside0.mk (Kd.S_below (by (with_reducible repeat (first | apply Kd.S_alloc | apply Kd.S_drewN | apply Kd.S_drew)); exact HO314.out) hb); have n2_ := Aside0.mk (Kd.R_below (by (with_reducible repeat (first | apply Kd.R_alloc | apply Kd.R_drewN | apply Kd.R_drew)); exact HO318.out) hb); have n3_ := Aside0.mk (Kd.R_below (by (with_reducible repeat (first | apply Kd.R_alloc | apply Kd.R_drewN | apply Kd.R_drew)); exact HO322.out) hb); have n4_ := Aside0.mk (Kd.R_below (by (with_reducible repeat (first | apply Kd.R_alloc | apply Kd.R_drewN | apply Kd.R_drew)); exact HO327.out) hb); have n5_ := Aside0.mk (Kd.R_below (by (with_reducible repeat (first | apply Kd.R_alloc | apply Kd.R_drewN | apply Kd.R_drew)); exact HO329.out) hb); have n6_ := Aside0.mk (Kd.R_below (by (with_reducible repeat (first | apply Kd.R_alloc | apply Kd.R_drewN | apply Kd.R_drew)); exact HO334.out) hb); have n7_ := Aside0.mk (Kd.R_below (by (with_reducible repeat (first | apply Kd.R_alloc | apply Kd.R_drewN | apply Kd.R_drew)); exact HO336.out) hb); have n8_ := Aside0.mk (Kd.S_below (by (with_reducible repeat (first | apply Kd.S_alloc | apply Kd.S_drewN | apply Kd.S_drew)); exact HO340.out) hb); have n9_ := Aside0.mk (Kd.S_below (by (with_reducible repeat (first | apply Kd.S_alloc | apply Kd.S_drewN | apply Kd.S_drew)); exact HO344.out) hb); have n10_ := Aside0.mk (below_step (by repeat (first | (with_reducible first | exact HB.out | apply below_alloc | apply pw_below_drewN | apply below_drew1) | exact HB.out)) hb); clear HO311; clear HO314; clear HO318; clear HO322; clear HO327; clear HO329; clear HO334; clear HO336; clear HO340; clear HO344; clear HB; have HO311 := n0_; have HO314 := n1_; have HO318 := n2_; have HO322 := n3_; have HO327 := n4_; have HO329 := n5_; have HO334 := n6_; have HO336 := n7_; have HO340 := n8_; have HO344 := n9_; have HB := n10_; clear n0_ n1_ n2_ n3_ n4_ n5_ n6_ n7_ n8_ n9_ n10_; (try clear hb); (try clear hb2); (try clear hk); (try clear hi)))
             go_ret
             (try rw [sameA20])
             (try rw [sameA28])
             (try rw [sameA30])
             exact ⟨by first | rfl | (simp [errW_none, errW_some] <;> rfl) | (simp [*, errW_none, errW_some] <;> rfl), by repeat (first | (with_reducible first | exact HB.out | apply below_alloc | apply pw_below_drewN | apply below_drew1) | exact HB.out)⟩
            ·replace c29 := Bool.eq_false_iff.mpr c29
             subst c29
             have H1 : (some false) = some r := by rw [if_neg (show ¬ (false = true) by decide)] at H; exact H
             clear H
             have H := H1
             clear H1
             exact absurd ((Option.some.inj H).trans hr_.out) (by decide)
           ·rw [if_neg c27] at H
            have c27b0 : (t338 == t342) = false := beq_eq_false_iff_ne.mpr c27
            have c27b1 : (t338 != t342) = true := bne_iff_ne.mpr c27
            exact absurd ((Option.some.inj H).trans hr_.out) (by decide)
          ·replace c26 := Bool.eq_false_iff.mpr c26
           subst c26
           have H1 : (some false) = some r := by rw [if_neg (show ¬ (false = true) by decide)] at H; exact H
           clear H
           have H := H1
           clear H1
           exact absurd ((Option.some.inj H).trans hr_.out) (by decide)
         ·rw [if_neg c24] at H
          have c24b0 : (t325 == t332) = false := beq_eq_false_iff_ne.mpr c24
          have c24b1 : (t325 != t332) = true := bne_iff_ne.mpr c24
          exact absurd ((Option.some.inj H).trans hr_.out) (by decide)
        ·replace c23 := Bool.eq_false_iff.mpr c23
         subst c23
         have H1 : (some false) = some r := by rw [if_neg (show ¬ (false = true) by decide)] at H; exact H
         clear H
         have H := H1
         clear H1
         exact absurd ((Option.some.inj H).trans hr_.out) (by decide)
       ·replace c21 := Bool.eq_false_iff.mpr c21
        subst c21
        have H1 : (some false) = some r := by rw [if_neg (show ¬ (false = true) by decide)] at H; exact H
        clear H
        have H := H1
        clear H1
        exact absurd ((Option.some.inj H).trans hr_.out) (by decide)
      ·rw [if_neg c19] at H
       have c19b0 : (t316 == t320) = false := beq_eq_false_iff_ne.mpr c19
       have c19b1 : (t316 != t320) = true := bne_iff_ne.mpr c19
       exact absurd ((Option.some.inj H).trans hr_.out) (by decide)
     ·replace c18 := Bool.eq_false_iff.mpr c18
      subst c18
      have H1 : (some false) = some r := by rw [if_neg (show ¬ (false = true) by decide)] at H; exact H
      clear H
      have H := H1
      clear H1
      exact absurd ((Option.some.inj H).trans hr_.out) (by decide)
    ·rw [if_neg c9] at H
     exact absurd H (by simp)
def sidinglaw16_ApplyDoes.Pure : Prop := ∀ (l0 : List ByteArray) (l1 : List (S46)) (a2 : Int), (l0.length * 16 ≤ 140737488351232 ∧ ∀ x0_ ∈ l0, x0_.size ≤ 140737488351232) → (l1.length * 56 ≤ 140737488351232 ∧ ∀ x0_ ∈ l1, ((Lit.int .i64 x0_.f0).wf = true) ∧ (x0_.f1.length * 16 ≤ 140737488351232 ∧ ∀ x1_ ∈ x0_.f1, x1_.size ≤ 140737488351232) ∧ (x0_.f2.length * 16 ≤ 140737488351232 ∧ ∀ x1_ ∈ x0_.f2, x1_.size ≤ 140737488351232)) → ((Lit.int .i64 a2).wf = true) → ∃ k, sidinglaw16_ApplyDoes.f k l0 l1 a2 = some true
theorem sidinglaw16_ApplyDoes.walk (P : sidinglaw16_ApplyDoes.Pure) (A0 : Option Addr) (c0 : Nat) (l0 : List ByteArray) (A1 : Option Addr) (c1 : Nat) (l1 : List (S46)) (a2 : Int) (w : World) (hr0 : Kd.C Kd.string w A0 l0.length l0) (hc0 : l0.length ≤ c0) (hr1 : Kd.C k46 w A1 l1.length l1) (hc1 : l1.length ≤ c1) (hw0 : l0.length * 16 ≤ 140737488351232 ∧ ∀ x0_ ∈ l0, x0_.size ≤ 140737488351232) (hw1 : l1.length * 56 ≤ 140737488351232 ∧ ∀ x0_ ∈ l1, ((Lit.int .i64 x0_.f0).wf = true) ∧ (x0_.f1.length * 16 ≤ 140737488351232 ∧ ∀ x1_ ∈ x0_.f1, x1_.size ≤ 140737488351232) ∧ (x0_.f2.length * 16 ≤ 140737488351232 ∧ ∀ x1_ ∈ x0_.f2, x1_.size ≤ 140737488351232)) (hw2 : (Lit.int .i64 a2).wf = true) :
  Calls Try.prog 3 #[.slice A0 l0.length c0, .slice A1 l1.length c1, .int .i64 a2] w fun e w' => e = .returned (.bool true) ∧ Below w.heap.size w w' := by
 obtain ⟨k, h⟩ := P l0 l1 a2 hw0 hw1 hw2
 refine (sidinglaw16_ApplyDoes.calls k A0 c0 l0 A1 c1 l1 a2 true w hr0 hc0 hr1 hc1 h ⟨rfl⟩).mono ?_
 rintro e w' ⟨rfl, hd⟩
 exact ⟨rfl, hd⟩

end Go.Proofs.Ytnajpgimhoighaa.Pr
