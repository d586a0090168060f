/- Part 18 of the proof of HunkWide: texts put together. -/
import Derived.Test.YtognfinkolpemaaDoorJHunkWide4
import Derived.Test.YtognfinkolpemaaDoorJHunkWide6
import Derived.Test.YtognfinkolpemaaDoorJHunkWide7
import Derived.Test.YtognfinkolpemaaDoorJHunkWide11
import Derived.Test.YtognfinkolpemaaDoorJHunkWide12
import Derived.Test.YtognfinkolpemaaDoorJHunkWide13
import Derived.Test.YtognfinkolpemaaDoorJHunkWide14
import Derived.Test.YtognfinkolpemaaDoorJHunkWide15
import Derived.Test.YtognfinkolpemaaDoorJHunkWide16
import Derived.Test.YtognfinkolpemaaDoorJHunkWide17
set_option linter.unusedVariables false
set_option linter.unusedSimpArgs false
section
namespace Go.Proofs.YtognfinkolpemaaDoor.Pr
open Go.RowKit Go.Proofs.YtognfinkolpemaaDoorW.PrintWords Go.Proofs.YtognfinkolpemaaDoorW.PrintLast Go.Proofs.YtognfinkolpemaaDoorW.PrintMore
attribute [local go_sem] max2_int min2_int max_two min_two max_three min_three max_four min_four   
mutual
def sidinglaw15_HunkWide.j0 : Nat → List ByteArray → List ByteArray → Int → Bool → Bool → Option (Bool)
 | 0, _, _, _, _, _ => none
 | k + 1, x0, x1, x2, x7, x32 => if x32 = true then (some x7) else ((hunk_Diff.f k x0 x1).bind fun bt242 => ((hunk_Widen.f k x0 bt242.1 0).bind fun bt246 => ((hunk_Widen.f k x0 bt242.1 x2).bind fun bt250 => (if bt242.2 = 0 then (if bt246.2 = 0 then (if bt250.2 = 0 then ((sidingref15_Same.f k bt246.1 bt242.1).bind fun t254 => (if t254 = true then ((sidingref15_Check.f k bt250.1).bind fun t255 => (if t255 = 0 then ((sidingref15_Fits.f k x0 bt250.1).bind fun t256 => (if t256 = true then (sidinglaw15_HunkWide.j1 k x0 x1 x2 x7 bt250.1 (decide ((bt250.1.length : Int) > (bt242.1.length : Int)))) else (sidinglaw15_HunkWide.j1 k x0 x1 x2 x7 bt250.1 true))) else (sidinglaw15_HunkWide.j1 k x0 x1 x2 x7 bt250.1 true))) else (sidinglaw15_HunkWide.j1 k x0 x1 x2 x7 bt250.1 true))) else (sidinglaw15_HunkWide.j1 k x0 x1 x2 x7 bt250.1 true)) else (sidinglaw15_HunkWide.j1 k x0 x1 x2 x7 bt250.1 true)) else (sidinglaw15_HunkWide.j1 k x0 x1 x2 x7 bt250.1 true)))))
def sidinglaw15_HunkWide.j1 : Nat → List ByteArray → List ByteArray → Int → Bool → List (S36) → Bool → Option (Bool)
 | 0, _, _, _, _, _, _ => none
 | k + 1, x0, x1, x2, x7, x12, x86 => if x86 = true then (some false) else ((sidingref15_Applied.f k x0 x12).bind fun t257 => ((sidingref13_Same.f k t257 x1).bind fun t260 => (if t260 = true then (sidinglaw15_HunkWide.l0 k x2 x7 x12 0) else (some false))))
def sidinglaw15_HunkWide.l0 : Nat → Int → Bool → List (S36) → Int → Option (Bool)
 | 0, _, _, _, _ => none
 | k + 1, x2, x7, x12, x14 => if x14 < (x12.length : Int) then (if 0 ≤ x14 then ((sidinglaw15_front.f k ((rd_T36 x12 x14).f0) ((rd_T36 x12 x14).f1) ((rd_T36 x12 x14).f2)).bind fun t262 => (if t262 < x2 then (if ((rd_T36 x12 x14).f0) > 0 then (some false) else (sidinglaw15_HunkWide.l0 k x2 x7 x12 (wrap64 (x14 + 1)))) else (sidinglaw15_HunkWide.l0 k x2 x7 x12 (wrap64 (x14 + 1))))) else (none)) else (some x7)
end
def sidinglaw15_HunkWide.f (k : Nat) (l0 : List ByteArray) (l1 : List ByteArray) (a2 : Int) : Option (Bool) := (sidinglaw15_alive.f).bind fun t240 => ((sidinglaw15_fit.f k l0 l1).bind fun t241 => (if t241 = true then (if a2 < 0 then (sidinglaw15_HunkWide.j0 k l0 l1 a2 t240 true) else (if a2 > 5 then (sidinglaw15_HunkWide.j0 k l0 l1 a2 t240 true) else (sidinglaw15_HunkWide.j0 k l0 l1 a2 t240 (!t240)))) else (sidinglaw15_HunkWide.j0 k l0 l1 a2 t240 true)))
set_option maxHeartbeats 8000000 in
set_option maxRecDepth 100000 in
theorem sidinglaw15_HunkWide.calls (k : Nat) (A0 : Option Addr) (c0 : Nat) (l0 : List ByteArray) (A1 : Option Addr) (c1 : Nat) (l1 : List ByteArray) (a2 : Int) (r : Bool) (w : World) (hr0 : Kd.C Kd.string w A0 l0.length l0) (hc0 : l0.length ≤ c0) (hr1 : Kd.C Kd.string w A1 l1.length l1) (hc1 : l1.length ≤ c1) (h : sidinglaw15_HunkWide.f k l0 l1 a2 = some r) (hr_ : Aside0 (r = true)) :
  Calls Tryd.prog 3 #[.slice A0 l0.length c0, .slice A1 l1.length c1, .int .i64 a2] w fun e w' => e = .returned (.bool r) ∧ Below w.heap.size w w' := by
 have hu36 := Tryd.underlying36
 have HR0 := Aside0.mk hr0
 have HC0 := Aside0.mk hc0
 clear hr0 hc0
 have HR1 := Aside0.mk hr1
 have HC1 := Aside0.mk hc1
 clear hr1 hc1
 have HB := Aside0.mk (Below.refl w.heap.size w)
 have H : ((sidinglaw15_alive.f).bind fun t240 => ((sidinglaw15_fit.f k l0 l1).bind fun t241 => (if t241 = true then (if a2 < 0 then (sidinglaw15_HunkWide.j0 k l0 l1 a2 t240 true) else (if a2 > 5 then (sidinglaw15_HunkWide.j0 k l0 l1 a2 t240 true) else (sidinglaw15_HunkWide.j0 k l0 l1 a2 t240 (!t240)))) else (sidinglaw15_HunkWide.j0 k l0 l1 a2 t240 true)))) = some r := h
 clear h
 replace H := Option.bind_eq_some_iff.mp H
 obtain ⟨t240, A40, H⟩ := H
 replace H : ((sidinglaw15_fit.f k l0 l1).bind fun t241 => (if t241 = true then (if a2 < 0 then (sidinglaw15_HunkWide.j0 k l0 l1 a2 t240 true) else (if a2 > 5 then (sidinglaw15_HunkWide.j0 k l0 l1 a2 t240 true) else (sidinglaw15_HunkWide.j0 k l0 l1 a2 t240 (!t240)))) else (sidinglaw15_HunkWide.j0 k l0 l1 a2 t240 true))) = some r := H
 have A4 := Aside0.mk A40
 clear A40
 have HC5 := Aside0.mk H
 clear H
 go_enter Tryd.func3, Tryd.ntmps3
 go_upto_region 2 with (first | ((with_reducible refine gate_callee (f := 5) rfl ?_); refine goesL_ (some 16) rfl rfl Tryd.func5 (by kernel_rfl) rfl #[] rfl (by (try simp only [List.map_toArray, List.map_cons, List.map_nil]); first | done | rfl | (simp only [List.length_drop, List.length_take]; rfl)) ?_; (with_reducible refine (sidinglaw15_alive.calls  t240 _ A4.out).mono ?_); rintro e w6 ⟨rfl, hb⟩; refine ⟨_, rfl, ?_⟩; have n0_ := Aside0.mk (below_step (by repeat (first | (with_reducible first | exact HB.out | apply below_alloc | apply pw_below_drewN | apply below_drew1) | exact HB.out)) hb); clear HB; have HB := n0_; clear n0_; (try clear hb); (try clear hb2); (try clear hk); (try clear hi)))
 (try simp only [Act.put, List.setIfInBounds_toArray, List.set_cons_zero, List.set_cons_succ])
 go_cut [32] (fun v32 wc => ∃ (kq : Nat) (x32_4 : Bool), v32 = .bool x32_4 ∧ Aside0 (sidinglaw15_HunkWide.j0 kq l0 l1 a2 t240 x32_4 = some r) ∧ Aside0 (kq ≤ k) ∧ Aside0 (Below w.heap.size w wc))
 case first =>
  have H := HC5.out
  clear HC5
  replace H := Option.bind_eq_some_iff.mp H
  obtain ⟨t241, A70, H⟩ := H
  replace H : (if t241 = true then (if a2 < 0 then (sidinglaw15_HunkWide.j0 k l0 l1 a2 t240 true) else (if a2 > 5 then (sidinglaw15_HunkWide.j0 k l0 l1 a2 t240 true) else (sidinglaw15_HunkWide.j0 k l0 l1 a2 t240 (!t240)))) else (sidinglaw15_HunkWide.j0 k l0 l1 a2 t240 true)) = some r := H
  have A7 := Aside0.mk A70
  clear A70
  by_cases c8 : t241 = true
  ·subst c8
   have H1 : (if a2 < 0 then (sidinglaw15_HunkWide.j0 k l0 l1 a2 t240 true) else (if a2 > 5 then (sidinglaw15_HunkWide.j0 k l0 l1 a2 t240 true) else (sidinglaw15_HunkWide.j0 k l0 l1 a2 t240 (!t240)))) = some r := by rw [if_pos rfl] at H; exact H
   clear H
   have H := H1
   clear H1
   by_cases c9 : a2 < 0
   ·rw [if_pos c9] at H
    have c9b0 : decide (a2 < 0) = true := decide_eq_true c9
    clear c9
    (first | rw [c9b0] | (simp only [i64_w, i32_w]; rw [c9b0]) | skip)
    have H' := Aside0.mk H
    clear H
    go_wp2_with (first | ((with_reducible refine gate_callee (f := 6) rfl ?_); refine goesL_ (some 19) rfl rfl Tryd.func6 (by kernel_rfl) rfl #[.slice A0 l0.length c0, .slice A1 l1.length c1] rfl (by (try simp only [List.map_toArray, List.map_cons, List.map_nil]); first | done | rfl | (simp only [List.length_drop, List.length_take]; rfl)) ?_; (with_reducible refine (sidinglaw15_fit.calls k _ _ l0 _ _ l1 true _ ?side1 ?side2 ?side3 ?side4 A7.out).mono ?_); (case side1 => repeat (first | exact (Kd.C_below HR0.out HB.out) | (with_reducible refine Kd.C_alloc ?_ _) | (with_reducible refine Kd.C_drewN ?_ _) | (with_reducible refine Kd.C_drew ?_))); (case side2 => exact HC0.out); (case side3 => repeat (first | exact (Kd.C_below HR1.out HB.out) | (with_reducible refine Kd.C_alloc ?_ _) | (with_reducible refine Kd.C_drewN ?_ _) | (with_reducible refine Kd.C_drew ?_))); (case side4 => exact HC1.out); rintro e w10 ⟨rfl, hb⟩; refine ⟨_, rfl, ?_⟩; have n0_ := Aside0.mk (below_step (by repeat (first | (with_reducible first | exact HB.out | apply below_alloc | apply pw_below_drewN | apply below_drew1) | exact HB.out)) hb); clear HB; have HB := n0_; clear n0_; (try clear hb); (try clear hb2); (try clear hk); (try clear hi)))
    go_meet
    case rel => exact ⟨_, (true), (by first | rfl | (simp; done) | (simp [*]; done)), H', ⟨by first | omega | exact Nat.le_refl _⟩, ⟨by repeat (first | (with_reducible first | exact HB.out | apply below_alloc | apply pw_below_drewN | apply below_drew1) | exact HB.out)⟩⟩
   ·rw [if_neg c9] at H
    have c9b0 : decide (a2 < 0) = false := decide_eq_false c9
    clear c9
    (first | rw [c9b0] | (simp only [i64_w, i32_w]; rw [c9b0]) | skip)
    by_cases c11 : a2 > 5
    ·rw [if_pos c11] at H
     have c11b0 : decide (5 < a2) = true := decide_eq_true c11
     clear c11
     have H' := Aside0.mk H
     clear H
     go_wp2_with (first | ((with_reducible refine gate_callee (f := 6) rfl ?_); refine goesL_ (some 19) rfl rfl Tryd.func6 (by kernel_rfl) rfl #[.slice A0 l0.length c0, .slice A1 l1.length c1] rfl (by (try simp only [List.map_toArray, List.map_cons, List.map_nil]); first | done | rfl | (simp only [List.length_drop, List.length_take]; rfl)) ?_; (with_reducible refine (sidinglaw15_fit.calls k _ _ l0 _ _ l1 true _ ?side1 ?side2 ?side3 ?side4 A7.out).mono ?_); (case side1 => repeat (first | exact (Kd.C_below HR0.out HB.out) | (with_reducible refine Kd.C_alloc ?_ _) | (with_reducible refine Kd.C_drewN ?_ _) | (with_reducible refine Kd.C_drew ?_))); (case side2 => exact HC0.out); (case side3 => repeat (first | exact (Kd.C_below HR1.out HB.out) | (with_reducible refine Kd.C_alloc ?_ _) | (with_reducible refine Kd.C_drewN ?_ _) | (with_reducible refine Kd.C_drew ?_))); (case side4 => exact HC1.out); rintro e w12 ⟨rfl, hb⟩; refine ⟨_, rfl, ?_⟩; have n0_ := Aside0.mk (below_step (by repeat (first | (with_reducible first | exact HB.out | apply below_alloc | apply pw_below_drewN | apply below_drew1) | exact HB.out)) hb); clear HB; have HB := n0_; clear n0_; (try clear hb); (try clear hb2); (try clear hk); (try clear hi)))
     go_meet
     case rel => exact ⟨_, (true), (by first | rfl | (simp; done) | (simp [*]; done)), H', ⟨by first | omega | exact Nat.le_refl _⟩, ⟨by repeat (first | (with_reducible first | exact HB.out | apply below_alloc | apply pw_below_drewN | apply below_drew1) | exact HB.out)⟩⟩
    ·rw [if_neg c11] at H
     have c11b0 : decide (5 < a2) = false := decide_eq_false c11
     clear c11
     have H' := Aside0.mk H
     clear H
     go_wp2_with (first | ((with_reducible refine gate_callee (f := 6) rfl ?_); refine goesL_ (some 19) rfl rfl Tryd.func6 (by kernel_rfl) rfl #[.slice A0 l0.length c0, .slice A1 l1.length c1] rfl (by (try simp only [List.map_toArray, List.map_cons, List.map_nil]); first | done | rfl | (simp only [List.length_drop, List.length_take]; rfl)) ?_; (with_reducible refine (sidinglaw15_fit.calls k _ _ l0 _ _ l1 true _ ?side1 ?side2 ?side3 ?side4 A7.out).mono ?_); (case side1 => repeat (first | exact (Kd.C_below HR0.out HB.out) | (with_reducible refine Kd.C_alloc ?_ _) | (with_reducible refine Kd.C_drewN ?_ _) | (with_reducible refine Kd.C_drew ?_))); (case side2 => exact HC0.out); (case side3 => repeat (first | exact (Kd.C_below HR1.out HB.out) | (with_reducible refine Kd.C_alloc ?_ _) | (with_reducible refine Kd.C_drewN ?_ _) | (with_reducible refine Kd.C_drew ?_))); (case side4 => exact HC1.out); rintro e w13 ⟨rfl, hb⟩; refine ⟨_, rfl, ?_⟩; have n0_ := Aside0.mk (below_step (by repeat (first | (with_reducible first | exact HB.out | apply below_alloc | apply pw_below_drewN | apply below_drew1) | exact HB.out)) hb); clear HB; have HB := n0_; clear n0_; (try clear hb); (try clear hb2); (try clear hk); (try clear hi)))
     go_meet
     case rel => exact ⟨_, (!t240), (by first | rfl | (simp; done) | (simp [*]; done)), H', ⟨by first | omega | exact Nat.le_refl _⟩, ⟨by repeat (first | (with_reducible first | exact HB.out | apply below_alloc | apply pw_below_drewN | apply below_drew1) | exact HB.out)⟩⟩
  ·replace c8 := Bool.eq_false_iff.mpr c8
   subst c8
   have H1 : (sidinglaw15_HunkWide.j0 k l0 l1 a2 t240 true) = some r := by rw [if_neg (show ¬ (false = true) by decide)] at H; exact H
   clear H
   have H := H1
   clear H1
   have H' := Aside0.mk H
   clear H
   go_wp2_with (first | ((with_reducible refine gate_callee (f := 6) rfl ?_); refine goesL_ (some 19) rfl rfl Tryd.func6 (by kernel_rfl) rfl #[.slice A0 l0.length c0, .slice A1 l1.length c1] rfl (by (try simp only [List.map_toArray, List.map_cons, List.map_nil]); first | done | rfl | (simp only [List.length_drop, List.length_take]; rfl)) ?_; (with_reducible refine (sidinglaw15_fit.calls k _ _ l0 _ _ l1 false _ ?side1 ?side2 ?side3 ?side4 A7.out).mono ?_); (case side1 => repeat (first | exact (Kd.C_below HR0.out HB.out) | (with_reducible refine Kd.C_alloc ?_ _) | (with_reducible refine Kd.C_drewN ?_ _) | (with_reducible refine Kd.C_drew ?_))); (case side2 => exact HC0.out); (case side3 => repeat (first | exact (Kd.C_below HR1.out HB.out) | (with_reducible refine Kd.C_alloc ?_ _) | (with_reducible refine Kd.C_drewN ?_ _) | (with_reducible refine Kd.C_drew ?_))); (case side4 => exact HC1.out); rintro e w14 ⟨rfl, hb⟩; refine ⟨_, rfl, ?_⟩; have n0_ := Aside0.mk (below_step (by repeat (first | (with_reducible first | exact HB.out | apply below_alloc | apply pw_below_drewN | apply below_drew1) | exact HB.out)) hb); clear HB; have HB := n0_; clear n0_; (try clear hb); (try clear hb2); (try clear hk); (try clear hi)))
   go_meet
   case rel => exact ⟨_, (true), (by first | rfl | (simp; done) | (simp [*]; done)), H', ⟨by first | omega | exact Nat.le_refl _⟩, ⟨by repeat (first | (with_reducible first | exact HB.out | apply below_alloc | apply pw_below_drewN | apply below_drew1) | exact HB.out)⟩⟩
 case rest =>
  clear HC5
  try clear c1
  try clear p2
  try clear c3
  try clear c5
  try clear c6
  try clear c8
  try clear c9
  try clear c9b0
  try clear c11
  try clear c11b0
  obtain ⟨kq, x32_4, rfl, HA, HJ4, HB⟩ := hcut
  cases kq with
  | zero => exact absurd HA.out (by simp [sidinglaw15_HunkWide.j0])
  | succ kj4 =>
   have H := HA.out
   clear HA
   simp only [sidinglaw15_HunkWide.j0] at H
   by_cases c15 : x32_4 = true
   ·subst c15
    have H1 : (some t240) = some r := by rw [if_pos rfl] at H; exact H
    clear H
    have H := H1
    clear H1
    obtain rfl := Option.some.inj H
    go_wp2
    go_ret
    exact ⟨by first | rfl | (simp [errW_none, errW_some] <;> rfl) | (simp [*, errW_none, errW_some] <;> rfl), by repeat (first | (with_reducible first | exact HB.out | apply below_alloc | apply pw_below_drewN | apply below_drew1) | exact HB.out)⟩
   ·replace c15 := Bool.eq_false_iff.mpr c15
    subst c15
    have H1 : ((hunk_Diff.f kj4 l0 l1).bind fun bt242 => ((hunk_Widen.f kj4 l0 bt242.1 0).bind fun bt246 => ((hunk_Widen.f kj4 l0 bt242.1 a2).bind fun bt250 => (if bt242.2 = 0 then (if bt246.2 = 0 then (if bt250.2 = 0 then ((sidingref15_Same.f kj4 bt246.1 bt242.1).bind fun t254 => (if t254 = true then ((sidingref15_Check.f kj4 bt250.1).bind fun t255 => (if t255 = 0 then ((sidingref15_Fits.f kj4 l0 bt250.1).bind fun t256 => (if t256 = true then (sidinglaw15_HunkWide.j1 kj4 l0 l1 a2 t240 bt250.1 (decide ((bt250.1.length : Int) > (bt242.1.length : Int)))) else (sidinglaw15_HunkWide.j1 kj4 l0 l1 a2 t240 bt250.1 true))) else (sidinglaw15_HunkWide.j1 kj4 l0 l1 a2 t240 bt250.1 true))) else (sidinglaw15_HunkWide.j1 kj4 l0 l1 a2 t240 bt250.1 true))) else (sidinglaw15_HunkWide.j1 kj4 l0 l1 a2 t240 bt250.1 true)) else (sidinglaw15_HunkWide.j1 kj4 l0 l1 a2 t240 bt250.1 true)) else (sidinglaw15_HunkWide.j1 kj4 l0 l1 a2 t240 bt250.1 true))))) = some r := by rw [if_neg (show ¬ (false = true) by decide)] at H; exact H
    clear H
    have H := H1
    clear H1
    replace H := Option.bind_eq_some_iff.mp H
    obtain ⟨⟨t242, t243⟩, A160, H⟩ := H
    replace H : ((hunk_Widen.f kj4 l0 t242 0).bind fun bt246 => ((hunk_Widen.f kj4 l0 t242 a2).bind fun bt250 => (if t243 = 0 then (if bt246.2 = 0 then (if bt250.2 = 0 then ((sidingref15_Same.f kj4 bt246.1 t242).bind fun t254 => (if t254 = true then ((sidingref15_Check.f kj4 bt250.1).bind fun t255 => (if t255 = 0 then ((sidingref15_Fits.f kj4 l0 bt250.1).bind fun t256 => (if t256 = true then (sidinglaw15_HunkWide.j1 kj4 l0 l1 a2 t240 bt250.1 (decide ((bt250.1.length : Int) > (t242.length : Int)))) else (sidinglaw15_HunkWide.j1 kj4 l0 l1 a2 t240 bt250.1 true))) else (sidinglaw15_HunkWide.j1 kj4 l0 l1 a2 t240 bt250.1 true))) else (sidinglaw15_HunkWide.j1 kj4 l0 l1 a2 t240 bt250.1 true))) else (sidinglaw15_HunkWide.j1 kj4 l0 l1 a2 t240 bt250.1 true)) else (sidinglaw15_HunkWide.j1 kj4 l0 l1 a2 t240 bt250.1 true)) else (sidinglaw15_HunkWide.j1 kj4 l0 l1 a2 t240 bt250.1 true)))) = some r := H
    have A16 := Aside0.mk A160
    clear A160
    replace H := Option.bind_eq_some_iff.mp H
    obtain ⟨⟨t246, t247⟩, A170, H⟩ := H
    replace H : ((hunk_Widen.f kj4 l0 t242 a2).bind fun bt250 => (if t243 = 0 then (if t247 = 0 then (if bt250.2 = 0 then ((sidingref15_Same.f kj4 t246 t242).bind fun t254 => (if t254 = true then ((sidingref15_Check.f kj4 bt250.1).bind fun t255 => (if t255 = 0 then ((sidingref15_Fits.f kj4 l0 bt250.1).bind fun t256 => (if t256 = true then (sidinglaw15_HunkWide.j1 kj4 l0 l1 a2 t240 bt250.1 (decide ((bt250.1.length : Int) > (t242.length : Int)))) else (sidinglaw15_HunkWide.j1 kj4 l0 l1 a2 t240 bt250.1 true))) else (sidinglaw15_HunkWide.j1 kj4 l0 l1 a2 t240 bt250.1 true))) else (sidinglaw15_HunkWide.j1 kj4 l0 l1 a2 t240 bt250.1 true))) else (sidinglaw15_HunkWide.j1 kj4 l0 l1 a2 t240 bt250.1 true)) else (sidinglaw15_HunkWide.j1 kj4 l0 l1 a2 t240 bt250.1 true)) else (sidinglaw15_HunkWide.j1 kj4 l0 l1 a2 t240 bt250.1 true))) = some r := H
    have A17 := Aside0.mk A170
    clear A170
    replace H := Option.bind_eq_some_iff.mp H
    obtain ⟨⟨t250, t251⟩, A180, H⟩ := H
    replace H : (if t243 = 0 then (if t247 = 0 then (if t251 = 0 then ((sidingref15_Same.f kj4 t246 t242).bind fun t254 => (if t254 = true then ((sidingref15_Check.f kj4 t250).bind fun t255 => (if t255 = 0 then ((sidingref15_Fits.f kj4 l0 t250).bind fun t256 => (if t256 = true then (sidinglaw15_HunkWide.j1 kj4 l0 l1 a2 t240 t250 (decide ((t250.length : Int) > (t242.length : Int)))) else (sidinglaw15_HunkWide.j1 kj4 l0 l1 a2 t240 t250 true))) else (sidinglaw15_HunkWide.j1 kj4 l0 l1 a2 t240 t250 true))) else (sidinglaw15_HunkWide.j1 kj4 l0 l1 a2 t240 t250 true))) else (sidinglaw15_HunkWide.j1 kj4 l0 l1 a2 t240 t250 true)) else (sidinglaw15_HunkWide.j1 kj4 l0 l1 a2 t240 t250 true)) else (sidinglaw15_HunkWide.j1 kj4 l0 l1 a2 t240 t250 true)) = some r := H
    have A18 := Aside0.mk A180
    clear A180
    have HC19 := Aside0.mk H
    clear H
    go_upto_region 7 with (first | ((with_reducible refine gate_callee (f := 7) rfl ?_); refine goesL_ (some 37) rfl rfl Tryd.func7 (by kernel_rfl) rfl #[.slice A0 l0.length c0, .slice A1 l1.length c1] rfl (by (try simp only [List.map_toArray, List.map_cons, List.map_nil]); first | done | rfl | (simp only [List.length_drop, List.length_take]; rfl)) ?_; (with_reducible refine (hunk_Diff.calls kj4 _ _ l0 _ _ l1 t242 t243 _ ?side1 ?side2 ?side3 ?side4 A16.out).mono ?_); (case side1 => repeat (first | exact (Kd.C_below HR0.out HB.out) | (with_reducible refine Kd.C_alloc ?_ _) | (with_reducible refine Kd.C_drewN ?_ _) | (with_reducible refine Kd.C_drew ?_))); (case side2 => exact HC0.out); (case side3 => repeat (first | exact (Kd.C_below HR1.out HB.out) | (with_reducible refine Kd.C_alloc ?_ _) | (with_reducible refine Kd.C_drewN ?_ _) | (with_reducible refine Kd.C_drew ?_))); (case side4 => exact HC1.out); rintro e w20 ⟨v244, rfl, ho0, hb⟩; refine ⟨_, rfl, ?_⟩; have n0_ := Aside0.mk (Kd.S_lower ho0 (below_size (by repeat (first | (with_reducible first | exact HB.out | apply below_alloc | apply pw_below_drewN | apply below_drew1) | exact HB.out)))); have n1_ := Aside0.mk (below_step (by repeat (first | (with_reducible first | exact HB.out | apply below_alloc | apply pw_below_drewN | apply below_drew1) | exact HB.out)) hb); clear HB; have HO245 := n0_; have HB := n1_; clear n0_ n1_; (try clear hb); (try clear hb2); (try clear hk); (try clear hi); (try clear ho0); obtain ⟨Ao21, co21, eo21⟩ := Kd.S_slice HO245.out; subst eo21) | ((with_reducible refine gate_callee (f := 8) rfl ?_); refine goesL_ (some 43) rfl rfl Tryd.func8 (by kernel_rfl) rfl #[.slice A0 l0.length c0, .slice Ao21 t242.length co21, .int .i64 0] rfl (by (try simp only [List.map_toArray, List.map_cons, List.map_nil]); first | done | rfl | (simp only [List.length_drop, List.length_take]; rfl)) ?_; (with_reducible refine (hunk_Widen.calls kj4 _ _ l0 _ _ t242 0 t246 t247 _ ?side1 ?side2 ?side3 ?side4 A17.out).mono ?_); (case side1 => repeat (first | exact (Kd.C_below HR0.out HB.out) | (with_reducible refine Kd.C_alloc ?_ _) | (with_reducible refine Kd.C_drewN ?_ _) | (with_reducible refine Kd.C_drew ?_))); (case side2 => exact HC0.out); (case side3 => repeat (first | exact (Kd.S_reads' HO245.out).2.2 | (with_reducible refine Kd.C_alloc ?_ _) | (with_reducible refine Kd.C_drewN ?_ _) | (with_reducible refine Kd.C_drew ?_))); (case side4 => exact (Kd.S_reads' HO245.out).2.1); rintro e w22 ⟨v248, rfl, ho0, hb⟩; refine ⟨_, rfl, ?_⟩; have n0_ := Aside0.mk (Kd.S_elder' (by (with_reducible repeat (first | apply Kd.S_alloc | apply Kd.S_drewN | apply Kd.S_drew)); exact HO245.out) (Kd.S_base ho0) hb); have n1_ := Aside0.mk (Kd.S_lower (Kd.S_new' ho0 (Kd.S_lt (by (with_reducible repeat (first | apply Kd.S_alloc | apply Kd.S_drewN | apply Kd.S_drew)); exact HO245.out))) (below_size (by repeat (first | (with_reducible first | exact HB.out | apply below_alloc | apply pw_below_drewN | apply below_drew1) | exact HB.out)))); have n2_ := Aside0.mk (below_step (by repeat (first | (with_reducible first | exact HB.out | apply below_alloc | apply pw_below_drewN | apply below_drew1) | exact HB.out)) hb); clear HO245; clear HB; have HO245 := n0_; have HO249 := n1_; have HB := n2_; clear n0_ n1_ n2_; (try clear hb); (try clear hb2); (try clear hk); (try clear hi); (try clear ho0)) | ((with_reducible refine gate_callee (f := 8) rfl ?_); refine goesL_ (some 50) rfl rfl Tryd.func8 (by kernel_rfl) rfl #[.slice A0 l0.length c0, .slice Ao21 t242.length co21, .int .i64 a2] rfl (by (try simp only [List.map_toArray, List.map_cons, List.map_nil]); first | done | rfl | (simp only [List.length_drop, List.length_take]; rfl)) ?_; (with_reducible refine (hunk_Widen.calls kj4 _ _ l0 _ _ t242 a2 t250 t251 _ ?side1 ?side2 ?side3 ?side4 A18.out).mono ?_); (case side1 => repeat (first | exact (Kd.C_below HR0.out HB.out) | (with_reducible refine Kd.C_alloc ?_ _) | (with_reducible refine Kd.C_drewN ?_ _) | (with_reducible refine Kd.C_drew ?_))); (case side2 => exact HC0.out); (case side3 => repeat (first | exact (Kd.S_reads' HO245.out).2.2 | (with_reducible refine Kd.C_alloc ?_ _) | (with_reducible refine Kd.C_drewN ?_ _) | (with_reducible refine Kd.C_drew ?_))); (case side4 => exact (Kd.S_reads' HO245.out).2.1); rintro e w23 ⟨v252, rfl, ho0, hb⟩; refine ⟨_, rfl, ?_⟩; have n0_ := Aside0.mk (Kd.S_elder' (by (with_reducible repeat (first | apply Kd.S_alloc | apply Kd.S_drewN | apply Kd.S_drew)); exact HO245.out) (Kd.S_base ho0) hb); have n1_ := Aside0.mk (Kd.S_elder' (by (with_reducible repeat (first | apply Kd.S_alloc | apply Kd.S_drewN | apply Kd.S_drew)); exact HO249.out) (Kd.S_base ho0) hb); have n2_ := Aside0.mk (Kd.S_lower (Kd.S_new' (Kd.S_new' ho0 (Kd.S_lt (by (with_reducible repeat (first | apply Kd.S_alloc | apply Kd.S_drewN | apply Kd.S_drew)); exact HO245.out))) (Kd.S_lt (by (with_reducible repeat (first | apply Kd.S_alloc | apply Kd.S_drewN | apply Kd.S_drew)); exact HO249.out))) (below_size (by repeat (first | (with_reducible first | exact HB.out | apply below_alloc | apply pw_below_drewN | apply below_drew1) | exact HB.out)))); have n3_ := Aside0.mk (below_step (by repeat (first | (with_reducible first | exact HB.out | apply below_alloc | apply pw_below_drewN | apply below_drew1) | exact HB.out)) hb); clear HO245; clear HO249; clear HB; have HO245 := n0_; have HO249 := n1_; have HO253 := n2_; have HB := n3_; clear n0_ n1_ n2_ n3_; (try clear hb); (try clear hb2); (try clear hk); (try clear hi); (try clear ho0)))
    (try simp only [Act.put, List.setIfInBounds_toArray, List.set_cons_zero, List.set_cons_succ])
    go_cut [86] (fun v86 wc => ∃ (kq : Nat) (x86_18 : Bool), v86 = .bool x86_18 ∧ Aside0 (sidinglaw15_HunkWide.j1 kq l0 l1 a2 t240 t250 x86_18 = some r) ∧ Aside0 (kq ≤ kj4) ∧ Aside0 (Kd.S k36 36 wc w.heap.size (fun _ => True) v252 t250) ∧ Aside0 (Below w.heap.size w wc))
    case first =>
     have H := HC19.out
     clear HC19
     by_cases c24 : t243 = 0
     ·rw [if_pos c24] at H
      have c24b0 : (t243 == 0) = true := beq_iff_eq.mpr c24
      have c24b1 : (t243 != 0) = false := bne_eq_false_iff_eq.mpr c24
      clear c24
      (first | rw [c24b0] | (simp only [i64_w, i32_w]; rw [c24b0]) | skip)
      by_cases c25 : t247 = 0
      ·rw [if_pos c25] at H
       have c25b0 : (t247 == 0) = true := beq_iff_eq.mpr c25
       have c25b1 : (t247 != 0) = false := bne_eq_false_iff_eq.mpr c25
       clear c25
       by_cases c26 : t251 = 0
       ·rw [if_pos c26] at H
        have c26b0 : (t251 == 0) = true := beq_iff_eq.mpr c26
        have c26b1 : (t251 != 0) = false := bne_eq_false_iff_eq.mpr c26
        clear c26
        replace H := Option.bind_eq_some_iff.mp H
        obtain ⟨t254, A270, H⟩ := H
        replace H : (if t254 = true then ((sidingref15_Check.f kj4 t250).bind fun t255 => (if t255 = 0 then ((sidingref15_Fits.f kj4 l0 t250).bind fun t256 => (if t256 = true then (sidinglaw15_HunkWide.j1 kj4 l0 l1 a2 t240 t250 (decide ((t250.length : Int) > (t242.length : Int)))) else (sidinglaw15_HunkWide.j1 kj4 l0 l1 a2 t240 t250 true))) else (sidinglaw15_HunkWide.j1 kj4 l0 l1 a2 t240 t250 true))) else (sidinglaw15_HunkWide.j1 kj4 l0 l1 a2 t240 t250 true)) = some r := H
        have A27 := Aside0.mk A270
        clear A270
        by_cases c28 : t254 = true
        ·subst c28
         have H1 : ((sidingref15_Check.f kj4 t250).bind fun t255 => (if t255 = 0 then ((sidingref15_Fits.f kj4 l0 t250).bind fun t256 => (if t256 = true then (sidinglaw15_HunkWide.j1 kj4 l0 l1 a2 t240 t250 (decide ((t250.length : Int) > (t242.length : Int)))) else (sidinglaw15_HunkWide.j1 kj4 l0 l1 a2 t240 t250 true))) else (sidinglaw15_HunkWide.j1 kj4 l0 l1 a2 t240 t250 true))) = some r := by rw [if_pos rfl] at H; exact H
         clear H
         have H := H1
         clear H1
         replace H := Option.bind_eq_some_iff.mp H
         obtain ⟨t255, A290, H⟩ := H
         replace H : (if t255 = 0 then ((sidingref15_Fits.f kj4 l0 t250).bind fun t256 => (if t256 = true then (sidinglaw15_HunkWide.j1 kj4 l0 l1 a2 t240 t250 (decide ((t250.length : Int) > (t242.length : Int)))) else (sidinglaw15_HunkWide.j1 kj4 l0 l1 a2 t240 t250 true))) else (sidinglaw15_HunkWide.j1 kj4 l0 l1 a2 t240 t250 true)) = some r := H
         have A29 := Aside0.mk A290
         clear A290
         by_cases c30 : t255 = 0
         ·rw [if_pos c30] at H
          have c30b0 : (t255 == 0) = true := beq_iff_eq.mpr c30
          have c30b1 : (t255 != 0) = false := bne_eq_false_iff_eq.mpr c30
          clear c30
          replace H := Option.bind_eq_some_iff.mp H
          obtain ⟨t256, A310, H⟩ := H
          replace H : (if t256 = true then (sidinglaw15_HunkWide.j1 kj4 l0 l1 a2 t240 t250 (decide ((t250.length : Int) > (t242.length : Int)))) else (sidinglaw15_HunkWide.j1 kj4 l0 l1 a2 t240 t250 true)) = some r := H
          have A31 := Aside0.mk A310
          clear A310
          by_cases c32 : t256 = true
          ·subst c32
           have H1 : (sidinglaw15_HunkWide.j1 kj4 l0 l1 a2 t240 t250 (decide ((t250.length : Int) > (t242.length : Int)))) = some r := by rw [if_pos rfl] at H; exact H
           clear H
           have H := H1
           clear H1
           have H' := Aside0.mk H
           clear H
           obtain ⟨Ao33, co33, eo33⟩ := Kd.S_slice HO249.out
           subst eo33
           go_wp2_with (first | (go_at_call 9; (with_reducible refine (sidingref15_Same.calls kj4 _ _ t246 _ _ t242 true _ ?side1 ?side2 ?side3 ?side4 A27.out).mono ?_); (case side1 => repeat (first | exact (Kd.S_reads' HO249.out).2.2 | (with_reducible refine Kd.C_alloc ?_ _) | (with_reducible refine Kd.C_drewN ?_ _) | (with_reducible refine Kd.C_drew ?_))); (case side2 => exact (Kd.S_reads' HO249.out).2.1); (case side3 => repeat (first | exact (Kd.S_reads' HO245.out).2.2 | (with_reducible refine Kd.C_alloc ?_ _) | (with_reducible refine Kd.C_drewN ?_ _) | (with_reducible refine Kd.C_drew ?_))); (case side4 => exact (Kd.S_reads' HO245.out).2.1); rintro e w34 ⟨rfl, hb⟩; have n0_ := Aside0.mk (Kd.S_below (by (with_reducible repeat (first | apply Kd.S_alloc | apply Kd.S_drewN | apply Kd.S_drew)); exact HO245.out) hb); have n1_ := Aside0.mk (Kd.S_below (by (with_reducible repeat (first | apply Kd.S_alloc | apply Kd.S_drewN | apply Kd.S_drew)); exact HO249.out) hb); have n2_ := Aside0.mk (Kd.S_below (by (with_reducible repeat (first | apply Kd.S_alloc | apply Kd.S_drewN | apply Kd.S_drew)); exact HO253.out) hb); have n3_ := Aside0.mk (below_step (by repeat (first | (with_reducible first | exact HB.out | apply below_alloc | apply pw_below_drewN | apply below_drew1) | exact HB.out)) hb); clear HO245; clear HO249; clear HO253; clear HB; have HO245 := n0_; have HO249 := n1_; have HO253 := n2_; have HB := n3_; clear n0_ n1_ n2_ n3_; (try clear hb); (try clear hb2); (try clear hk); (try clear hi); obtain ⟨Ao35, co35, eo35⟩ := Kd.S_slice HO253.out; subst eo35) | (go_at_call 10; (with_reducible refine (sidingref15_Check.calls kj4 _ _ t250 t255 _ ?side1 ?side2 A29.out).mono ?_); (case side1 => repeat (first | exact (Kd.S_reads' HO253.out).2.2 | (with_reducible refine Kd.C_alloc ?_ _) | (with_reducible refine Kd.C_drewN ?_ _) | (with_reducible refine Kd.C_drew ?_))); (case side2 => exact (Kd.S_reads' HO253.out).2.1); rintro e w36 ⟨rfl, hb⟩; have n0_ := Aside0.mk (Kd.S_below (by (with_reducible repeat (first | apply Kd.S_alloc | apply Kd.S_drewN | apply Kd.S_drew)); exact HO245.out) hb); have n1_ := Aside0.mk (Kd.S_below (by (with_reducible repeat (first | apply Kd.S_alloc | apply Kd.S_drewN | apply Kd.S_drew)); exact HO249.out) hb); have n2_ := Aside0.mk (Kd.S_below (by (with_reducible repeat (first | apply Kd.S_alloc | apply Kd.S_drewN | apply Kd.S_drew)); exact HO253.out) hb); have n3_ := Aside0.mk (below_step (by repeat (first | (with_reducible first | exact HB.out | apply below_alloc | apply pw_below_drewN | apply below_drew1) | exact HB.out)) hb); clear HO245; clear HO249; clear HO253; clear HB; have HO245 := n0_; have HO249 := n1_; have HO253 := n2_; have HB := n3_; clear n0_ n1_ n2_ n3_; (try clear hb); (try clear hb2); (try clear hk); (try clear hi)) | (go_at_call 11; (with_reducible refine (sidingref15_Fits.calls kj4 _ _ l0 _ _ t250 true _ ?side1 ?side2 ?side3 ?side4 A31.out).mono ?_); (case side1 => repeat (first | exact (Kd.C_below HR0.out HB.out) | (with_reducible refine Kd.C_alloc ?_ _) | (with_reducible refine Kd.C_drewN ?_ _) | (with_reducible refine Kd.C_drew ?_))); (case side2 => exact HC0.out); (case side3 => repeat (first | exact (Kd.S_reads' HO253.out).2.2 | (with_reducible refine Kd.C_alloc ?_ _) | (with_reducible refine Kd.C_drewN ?_ _) | (with_reducible refine Kd.C_drew ?_))); (case side4 => exact (Kd.S_reads' HO253.out).2.1); rintro e w37 ⟨rfl, hb⟩; have n0_ := Aside0.mk (Kd.S_below (by (with_reducible repeat (first | apply Kd.S_alloc | apply Kd.S_drewN | apply Kd.S_drew)); exact HO245.out) hb); have n1_ := Aside0.mk (Kd.S_below (by (with_reducible repeat (first | apply Kd.S_alloc | apply Kd.S_drewN | apply Kd.S_drew)); exact HO249.out) hb); have n2_ := Aside0.mk (Kd.S_below (by (with_reducible repeat (first | apply Kd.S_alloc | apply Kd.S_drewN | apply Kd.S_drew)); exact HO253.out) hb); have n3_ := Aside0.mk (below_step (by repeat (first | (with_reducible first | exact HB.out | apply below_alloc | apply pw_below_drewN | apply below_drew1) | exact HB.out)) hb); clear HO245; clear HO249; clear HO253; clear HB; have HO245 := n0_; have HO249 := n1_; have HO253 := n2_; have HB := n3_; clear n0_ n1_ n2_ n3_; (try clear hb); (try clear hb2); (try clear hk); (try clear hi)))
           go_meet
           case rel => exact ⟨_, (decide ((t250.length : Int) > (t242.length : Int))), (by first | rfl | (simp; done) | (simp [*]; done)), H', ⟨by have := HJ4.out; first | omega | exact Nat.le_refl _⟩, ⟨by (with_reducible repeat (first | apply Kd.S_alloc | apply Kd.S_drewN | apply Kd.S_drew)); exact Kd.S_mono HO253.out (fun _ hk => trivial)⟩, ⟨by repeat (first | (with_reducible first | exact HB.out | apply below_alloc | apply pw_below_drewN | apply below_drew1) | exact HB.out)⟩⟩
          ·replace c32 := Bool.eq_false_iff.mpr c32
           subst c32
           have H1 : (sidinglaw15_HunkWide.j1 kj4 l0 l1 a2 t240 t250 true) = some r := by rw [if_neg (show ¬ (false = true) by decide)] at H; exact H
           clear H
           have H := H1
           clear H1
           have H' := Aside0.mk H
           clear H
           obtain ⟨Ao38, co38, eo38⟩ := Kd.S_slice HO249.out
           subst eo38
           go_wp2_with (first | (go_at_call 9; (with_reducible refine (sidingref15_Same.calls kj4 _ _ t246 _ _ t242 true _ ?side1 ?side2 ?side3 ?side4 A27.out).mono ?_); (case side1 => repeat (first | exact (Kd.S_reads' HO249.out).2.2 | (with_reducible refine Kd.C_alloc ?_ _) | (with_reducible refine Kd.C_drewN ?_ _) | (with_reducible refine Kd.C_drew ?_))); (case side2 => exact (Kd.S_reads' HO249.out).2.1); (case side3 => repeat (first | exact (Kd.S_reads' HO245.out).2.2 | (with_reducible refine Kd.C_alloc ?_ _) | (with_reducible refine Kd.C_drewN ?_ _) | (with_reducible refine Kd.C_drew ?_))); (case side4 => exact (Kd.S_reads' HO245.out).2.1); rintro e w39 ⟨rfl, hb⟩; have n0_ := Aside0.mk (Kd.S_below (by (with_reducible repeat (first | apply Kd.S_alloc | apply Kd.S_drewN | apply Kd.S_drew)); exact HO245.out) hb); have n1_ := Aside0.mk (Kd.S_below (by (with_reducible repeat (first | apply Kd.S_alloc | apply Kd.S_drewN | apply Kd.S_drew)); exact HO249.out) hb); have n2_ := Aside0.mk (Kd.S_below (by (with_reducible repeat (first | apply Kd.S_alloc | apply Kd.S_drewN | apply Kd.S_drew)); exact HO253.out) hb); have n3_ := Aside0.mk (below_step (by repeat (first | (with_reducible first | exact HB.out | apply below_alloc | apply pw_below_drewN | apply below_drew1) | exact HB.out)) hb); clear HO245; clear HO249; clear HO253; clear HB; have HO245 := n0_; have HO249 := n1_; have HO253 := n2_; have HB := n3_; clear n0_ n1_ n2_ n3_; (try clear hb); (try clear hb2); (try clear hk); (try clear hi); obtain ⟨Ao40, co40, eo40⟩ := Kd.S_slice HO253.out; subst eo40) | (go_at_call 10; (with_reducible refine (sidingref15_Check.calls kj4 _ _ t250 t255 _ ?side1 ?side2 A29.out).mono ?_); (case side1 => repeat (first | exact (Kd.S_reads' HO253.out).2.2 | (with_reducible refine Kd.C_alloc ?_ _) | (with_reducible refine Kd.C_drewN ?_ _) | (with_reducible refine Kd.C_drew ?_))); (case side2 => exact (Kd.S_reads' HO253.out).2.1); rintro e w41 ⟨rfl, hb⟩; have n0_ := Aside0.mk (Kd.S_below (by (with_reducible repeat (first | apply Kd.S_alloc | apply Kd.S_drewN | apply Kd.S_drew)); exact HO245.out) hb); have n1_ := Aside0.mk (Kd.S_below (by (with_reducible repeat (first | apply Kd.S_alloc | apply Kd.S_drewN | apply Kd.S_drew)); exact HO249.out) hb); have n2_ := Aside0.mk (Kd.S_below (by (with_reducible repeat (first | apply Kd.S_alloc | apply Kd.S_drewN | apply Kd.S_drew)); exact HO253.out) hb); have n3_ := Aside0.mk (below_step (by repeat (first | (with_reducible first | exact HB.out | apply below_alloc | apply pw_below_drewN | apply below_drew1) | exact HB.out)) hb); clear HO245; clear HO249; clear HO253; clear HB; have HO245 := n0_; have HO249 := n1_; have HO253 := n2_; have HB := n3_; clear n0_ n1_ n2_ n3_; (try clear hb); (try clear hb2); (try clear hk); (try clear hi)) | (go_at_call 11; (with_reducible refine (sidingref15_Fits.calls kj4 _ _ l0 _ _ t250 false _ ?side1 ?side2 ?side3 ?side4 A31.out).mono ?_); (case side1 => repeat (first | exact (Kd.C_below HR0.out HB.out) | (with_reducible refine Kd.C_alloc ?_ _) | (with_reducible refine Kd.C_drewN ?_ _) | (with_reducible refine Kd.C_drew ?_))); (case side2 => exact HC0.out); (case side3 => repeat (first | exact (Kd.S_reads' HO253.out).2.2 | (with_reducible refine Kd.C_alloc ?_ _) | (with_reducible refine Kd.C_drewN ?_ _) | (with_reducible refine Kd.C_drew ?_))); (case side4 => exact (Kd.S_reads' HO253.out).2.1); rintro e w42 ⟨rfl, hb⟩; have n0_ := Aside0.mk (Kd.S_below (by (with_reducible repeat (first | apply Kd.S_alloc | apply Kd.S_drewN | apply Kd.S_drew)); exact HO245.out) hb); have n1_ := Aside0.mk (Kd.S_below (by (with_reducible repeat (first | apply Kd.S_alloc | apply Kd.S_drewN | apply Kd.S_drew)); exact HO249.out) hb); have n2_ := Aside0.mk (Kd.S_below (by (with_reducible repeat (first | apply Kd.S_alloc | apply Kd.S_drewN | apply Kd.S_drew)); exact HO253.out) hb); have n3_ := Aside0.mk (below_step (by repeat (first | (with_reducible first | exact HB.out | apply below_alloc | apply pw_below_drewN | apply below_drew1) | exact HB.out)) hb); clear HO245; clear HO249; clear HO253; clear HB; have HO245 := n0_; have HO249 := n1_; have HO253 := n2_; have HB := n3_; clear n0_ n1_ n2_ n3_; (try clear hb); (try clear hb2); (try clear hk); (try clear hi)))
           go_meet
           case rel => exact ⟨_, (true), (by first | rfl | (simp; done) | (simp [*]; done)), H', ⟨by have := HJ4.out; first | omega | exact Nat.le_refl _⟩, ⟨by (with_reducible repeat (first | apply Kd.S_alloc | apply Kd.S_drewN | apply Kd.S_drew)); exact Kd.S_mono HO253.out (fun _ hk => trivial)⟩, ⟨by repeat (first | (with_reducible first | exact HB.out | apply below_alloc | apply pw_below_drewN | apply below_drew1) | exact HB.out)⟩⟩
         ·rw [if_neg c30] at H
          have c30b0 : (t255 == 0) = false := beq_eq_false_iff_ne.mpr c30
          have c30b1 : (t255 != 0) = true := bne_iff_ne.mpr c30
          have H' := Aside0.mk H
          clear H
          obtain ⟨Ao43, co43, eo43⟩ := Kd.S_slice HO249.out
          subst eo43
          go_wp2_with (first | (go_at_call 9; (with_reducible refine (sidingref15_Same.calls kj4 _ _ t246 _ _ t242 true _ ?side1 ?side2 ?side3 ?side4 A27.out).mono ?_); (case side1 => repeat (first | exact (Kd.S_reads' HO249.out).2.2 | (with_reducible refine Kd.C_alloc ?_ _) | (with_reducible refine Kd.C_drewN ?_ _) | (with_reducible refine Kd.C_drew ?_))); (case side2 => exact (Kd.S_reads' HO249.out).2.1); (case side3 => repeat (first | exact (Kd.S_reads' HO245.out).2.2 | (with_reducible refine Kd.C_alloc ?_ _) | (with_reducible refine Kd.C_drewN ?_ _) | (with_reducible refine Kd.C_drew ?_))); (case side4 => exact (Kd.S_reads' HO245.out).2.1); rintro e w44 ⟨rfl, hb⟩; have n0_ := Aside0.mk (Kd.S_below (by (with_reducible repeat (first | apply Kd.S_alloc | apply Kd.S_drewN | apply Kd.S_drew)); exact HO245.out) hb); have n1_ := Aside0.mk (Kd.S_below (by (with_reducible repeat (first | apply Kd.S_alloc | apply Kd.S_drewN | apply Kd.S_drew)); exact HO249.out) hb); have n2_ := Aside0.mk (Kd.S_below (by (with_reducible repeat (first | apply Kd.S_alloc | apply Kd.S_drewN | apply Kd.S_drew)); exact HO253.out) hb); have n3_ := Aside0.mk (below_step (by repeat (first | (with_reducible first | exact HB.out | apply below_alloc | apply pw_below_drewN | apply below_drew1) | exact HB.out)) hb); clear HO245; clear HO249; clear HO253; clear HB; have HO245 := n0_; have HO249 := n1_; have HO253 := n2_; have HB := n3_; clear n0_ n1_ n2_ n3_; (try clear hb); (try clear hb2); (try clear hk); (try clear hi); obtain ⟨Ao45, co45, eo45⟩ := Kd.S_slice HO253.out; subst eo45) | (go_at_call 10; (with_reducible refine (sidingref15_Check.calls kj4 _ _ t250 t255 _ ?side1 ?side2 A29.out).mono ?_); (case side1 => repeat (first | exact (Kd.S_reads' HO253.out).2.2 | (with_reducible refine Kd.C_alloc ?_ _) | (with_reducible refine Kd.C_drewN ?_ _) | (with_reducible refine Kd.C_drew ?_))); (case side2 => exact (Kd.S_reads' HO253.out).2.1); rintro e w46 ⟨rfl, hb⟩; have n0_ := Aside0.mk (Kd.S_below (by (with_reducible repeat (first | apply Kd.S_alloc | apply Kd.S_drewN | apply Kd.S_drew)); exact HO245.out) hb); have n1_ := Aside0.mk (Kd.S_below (by (with_reducible repeat (first | apply Kd.S_alloc | apply Kd.S_drewN | apply Kd.S_drew)); exact HO249.out) hb); have n2_ := Aside0.mk (Kd.S_below (by (with_reducible repeat (first | apply Kd.S_alloc | apply Kd.S_drewN | apply Kd.S_drew)); exact HO253.out) hb); have n3_ := Aside0.mk (below_step (by repeat (first | (with_reducible first | exact HB.out | apply below_alloc | apply pw_below_drewN | apply below_drew1) | exact HB.out)) hb); clear HO245; clear HO249; clear HO253; clear HB; have HO245 := n0_; have HO249 := n1_; have HO253 := n2_; have HB := n3_; clear n0_ n1_ n2_ n3_; (try clear hb); (try clear hb2); (try clear hk); (try clear hi)))
          go_meet
          case rel => exact ⟨_, (true), (by first | rfl | (simp; done) | (simp [*]; done)), H', ⟨by have := HJ4.out; first | omega | exact Nat.le_refl _⟩, ⟨by (with_reducible repeat (first | apply Kd.S_alloc | apply Kd.S_drewN | apply Kd.S_drew)); exact Kd.S_mono HO253.out (fun _ hk => trivial)⟩, ⟨by repeat (first | (with_reducible first | exact HB.out | apply below_alloc | apply pw_below_drewN | apply below_drew1) | exact HB.out)⟩⟩
        ·replace c28 := Bool.eq_false_iff.mpr c28
         subst c28
         have H1 : (sidinglaw15_HunkWide.j1 kj4 l0 l1 a2 t240 t250 true) = some r := by rw [if_neg (show ¬ (false = true) by decide)] at H; exact H
         clear H
         have H := H1
         clear H1
         have H' := Aside0.mk H
         clear H
         obtain ⟨Ao47, co47, eo47⟩ := Kd.S_slice HO249.out
         subst eo47
         go_wp2_with (first | (go_at_call 9; (with_reducible refine (sidingref15_Same.calls kj4 _ _ t246 _ _ t242 false _ ?side1 ?side2 ?side3 ?side4 A27.out).mono ?_); (case side1 => repeat (first | exact (Kd.S_reads' HO249.out).2.2 | (with_reducible refine Kd.C_alloc ?_ _) | (with_reducible refine Kd.C_drewN ?_ _) | (with_reducible refine Kd.C_drew ?_))); (case side2 => exact (Kd.S_reads' HO249.out).2.1); (case side3 => repeat (first | exact (Kd.S_reads' HO245.out).2.2 | (with_reducible refine Kd.C_alloc ?_ _) | (with_reducible refine Kd.C_drewN ?_ _) | (with_reducible refine Kd.C_drew ?_))); (case side4 => exact (Kd.S_reads' HO245.out).2.1); rintro e w48 ⟨rfl, hb⟩; have n0_ := Aside0.mk (Kd.S_below (by (with_reducible repeat (first | apply Kd.S_alloc | apply Kd.S_drewN | apply Kd.S_drew)); exact HO245.out) hb); have n1_ := Aside0.mk (Kd.S_below (by (with_reducible repeat (first | apply Kd.S_alloc | apply Kd.S_drewN | apply Kd.S_drew)); exact HO249.out) hb); have n2_ := Aside0.mk (Kd.S_below (by (with_reducible repeat (first | apply Kd.S_alloc | apply Kd.S_drewN | apply Kd.S_drew)); exact HO253.out) hb); have n3_ := Aside0.mk (below_step (by repeat (first | (with_reducible first | exact HB.out | apply below_alloc | apply pw_below_drewN | apply below_drew1) | exact HB.out)) hb); clear HO245; clear HO249; clear HO253; clear HB; have HO245 := n0_; have HO249 := n1_; have HO253 := n2_; have HB := n3_; clear n0_ n1_ n2_ n3_; (try clear hb); (try clear hb2); (try clear hk); (try clear hi)))
         go_meet
         case rel => exact ⟨_, (true), (by first | rfl | (simp; done) | (simp [*]; done)), H', ⟨by have := HJ4.out; first | omega | exact Nat.le_refl _⟩, ⟨by (with_reducible repeat (first | apply Kd.S_alloc | apply Kd.S_drewN | apply Kd.S_drew)); exact Kd.S_mono HO253.out (fun _ hk => trivial)⟩, ⟨by repeat (first | (with_reducible first | exact HB.out | apply below_alloc | apply pw_below_drewN | apply below_drew1) | exact HB.out)⟩⟩
       ·rw [if_neg c26] at H
        have c26b0 : (t251 == 0) = false := beq_eq_false_iff_ne.mpr c26
        have c26b1 : (t251 != 0) = true := bne_iff_ne.mpr c26
        have H' := Aside0.mk H
        clear H
        go_wp2
        go_meet
        case rel => exact ⟨_, (true), (by first | rfl | (simp; done) | (simp [*]; done)), H', ⟨by have := HJ4.out; first | omega | exact Nat.le_refl _⟩, ⟨by (with_reducible repeat (first | apply Kd.S_alloc | apply Kd.S_drewN | apply Kd.S_drew)); exact Kd.S_mono HO253.out (fun _ hk => trivial)⟩, ⟨by repeat (first | (with_reducible first | exact HB.out | apply below_alloc | apply pw_below_drewN | apply below_drew1) | exact HB.out)⟩⟩
      ·rw [if_neg c25] at H
       have c25b0 : (t247 == 0) = false := beq_eq_false_iff_ne.mpr c25
       have c25b1 : (t247 != 0) = true := bne_iff_ne.mpr c25
       have H' := Aside0.mk H
       clear H
       go_wp2
       go_meet
       case rel => exact ⟨_, (true), (by first | rfl | (simp; done) | (simp [*]; done)), H', ⟨by have := HJ4.out; first | omega | exact Nat.le_refl _⟩, ⟨by (with_reducible repeat (first | apply Kd.S_alloc | apply Kd.S_drewN | apply Kd.S_drew)); exact Kd.S_mono HO253.out (fun _ hk => trivial)⟩, ⟨by repeat (first | (with_reducible first | exact HB.out | apply below_alloc | apply pw_below_drewN | apply below_drew1) | exact HB.out)⟩⟩
     ·rw [if_neg c24] at H
      have c24b0 : (t243 == 0) = false := beq_eq_false_iff_ne.mpr c24
      have c24b1 : (t243 != 0) = true := bne_iff_ne.mpr c24
      (first | rw [c24b0] | (simp only [i64_w, i32_w]; rw [c24b0]) | skip)
      have H' := Aside0.mk H
      clear H
      go_wp2
      go_meet
      case rel => exact ⟨_, (true), (by first | rfl | (simp; done) | (simp [*]; done)), H', ⟨by have := HJ4.out; first | omega | exact Nat.le_refl _⟩, ⟨by (with_reducible repeat (first | apply Kd.S_alloc | apply Kd.S_drewN | apply Kd.S_drew)); exact Kd.S_mono HO253.out (fun _ hk => trivial)⟩, ⟨by repeat (first | (with_reducible first | exact HB.out | apply below_alloc | apply pw_below_drewN | apply below_drew1) | exact HB.out)⟩⟩
    case rest =>
     clear HC19
     try clear c1
     try clear c2
     try clear p2
     try clear c3
     try clear c5
     try clear c6
     try clear c7
     try clear c8
     try clear c9
     try clear c9b0
     try clear c11
     try clear c11b0
     try clear c15
     try clear c24
     try clear c24b0
     try clear c24b1
     try clear c25
     try clear c25b0
     try clear c25b1
     try clear c26
     try clear c26b0
     try clear c26b1
     try clear c28
     try clear c30
     try clear c30b0
     try clear c30b1
     try clear c32
     try clear p2
     obtain ⟨kq, x86_18, rfl, HA, HJ18, HO_12, HB⟩ := hcut
     cases kq with
     | zero => exact absurd HA.out (by simp [sidinglaw15_HunkWide.j1])
     | succ kj18 =>
      have H := HA.out
      clear HA
      simp only [sidinglaw15_HunkWide.j1] at H
      by_cases c49 : x86_18 = true
      ·subst c49
       have H1 : (some false) = some r := by rw [if_pos rfl] at H; exact H
       clear H
       have H := H1
       clear H1
       exact absurd ((Option.some.inj H).trans hr_.out) (by decide)
      ·replace c49 := Bool.eq_false_iff.mpr c49
       subst c49
       have H1 : ((sidingref15_Applied.f kj18 l0 t250).bind fun t257 => ((sidingref13_Same.f kj18 t257 l1).bind fun t260 => (if t260 = true then (sidinglaw15_HunkWide.l0 kj18 a2 t240 t250 0) else (some false)))) = some r := by rw [if_neg (show ¬ (false = true) by decide)] at H; exact H
       clear H
       have H := H1
       clear H1
       replace H := Option.bind_eq_some_iff.mp H
       obtain ⟨t257, A500, H⟩ := H
       replace H : ((sidingref13_Same.f kj18 t257 l1).bind fun t260 => (if t260 = true then (sidinglaw15_HunkWide.l0 kj18 a2 t240 t250 0) else (some false))) = some r := H
       have A50 := Aside0.mk A500
       clear A500
       replace H := Option.bind_eq_some_iff.mp H
       obtain ⟨t260, A510, H⟩ := H
       replace H : (if t260 = true then (sidinglaw15_HunkWide.l0 kj18 a2 t240 t250 0) else (some false)) = some r := H
       have A51 := Aside0.mk A510
       clear A510
       by_cases c52 : t260 = true
       ·subst c52
        have H1 : (sidinglaw15_HunkWide.l0 kj18 a2 t240 t250 0) = some r := by rw [if_pos rfl] at H; exact H
        clear H
        have H := H1
        clear H1
        have H' := Aside0.mk H
        clear H
        obtain ⟨Ao53, co53, eo53⟩ := Kd.S_slice HO_12.out
        subst eo53
        go_wp2_with (first | ((with_reducible refine gate_callee (f := 13) rfl ?_); refine goesL_ (some 89) rfl rfl Tryd.func13 (by kernel_rfl) rfl #[.slice A0 l0.length c0, .slice Ao53 t250.length co53] rfl (by (try simp only [List.map_toArray, List.map_cons, List.map_nil]); first | done | rfl | (simp only [List.length_drop, List.length_take]; rfl)) ?_; (with_reducible refine (sidingref15_Applied.calls kj18 _ _ l0 _ _ t250 t257 _ ?side1 ?side2 ?side3 ?side4 A50.out).mono ?_); (case side1 => repeat (first | exact (Kd.C_below HR0.out HB.out) | (with_reducible refine Kd.C_alloc ?_ _) | (with_reducible refine Kd.C_drewN ?_ _) | (with_reducible refine Kd.C_drew ?_))); (case side2 => exact HC0.out); (case side3 => repeat (first | exact (Kd.S_reads' HO_12.out).2.2 | (with_reducible refine Kd.C_alloc ?_ _) | (with_reducible refine Kd.C_drewN ?_ _) | (with_reducible refine Kd.C_drew ?_))); (case side4 => exact (Kd.S_reads' HO_12.out).2.1); rintro e w54 ⟨v258, rfl, ho0, hb⟩; refine ⟨_, rfl, ?_⟩; have n0_ := Aside0.mk (Kd.S_elder' (by (with_reducible repeat (first | apply Kd.S_alloc | apply Kd.S_drewN | apply Kd.S_drew)); exact HO_12.out) (Kd.R_base ho0) hb); have n1_ := Aside0.mk (Kd.R_lower ho0 (below_size (by repeat (first | (with_reducible first | exact HB.out | apply below_alloc | apply pw_below_drewN | apply below_drew1) | exact HB.out)))); have n2_ := Aside0.mk (below_step (by repeat (first | (with_reducible first | exact HB.out | apply below_alloc | apply pw_below_drewN | apply below_drew1) | exact HB.out)) hb); clear HO_12; clear HB; have HO_12 := n0_; have HO259 := n1_; have HB := n2_; clear n0_ n1_ n2_; (try clear hb); (try clear hb2); (try clear hk); (try clear hi); (try clear ho0); obtain ⟨Ao55, co55, eo55⟩ := Kd.R_slice HO259.out; subst eo55) | ((with_reducible refine gate_callee (f := 12) rfl ?_); refine goesL_ (some 91) rfl rfl Tryd.func12 (by kernel_rfl) rfl #[.slice Ao55 t257.length co55, .slice A1 l1.length c1] rfl (by (try simp only [List.map_toArray, List.map_cons, List.map_nil]); first | done | rfl | (simp only [List.length_drop, List.length_take]; rfl)) ?_; (with_reducible refine (sidingref13_Same.calls kj18 _ _ t257 _ _ l1 true _ ?side1 ?side2 ?side3 ?side4 A51.out).mono ?_); (case side1 => repeat (first | exact (Kd.R_reads' HO259.out).2.2 | (with_reducible refine Kd.C_alloc ?_ _) | (with_reducible refine Kd.C_drewN ?_ _) | (with_reducible refine Kd.C_drew ?_))); (case side2 => exact (Kd.R_reads' HO259.out).2.1); (case side3 => repeat (first | exact (Kd.C_below HR1.out HB.out) | (with_reducible refine Kd.C_alloc ?_ _) | (with_reducible refine Kd.C_drewN ?_ _) | (with_reducible refine Kd.C_drew ?_))); (case side4 => exact HC1.out); rintro e w' ⟨rfl, ⟨nd, rfl⟩⟩; refine ⟨_, rfl, ?_⟩))
        go_loopg [14] kj18 (fun kq v14 w' => ∃ (x14_3 : Int), v14 = .int .i64 x14_3 ∧ Aside0 (sidinglaw15_HunkWide.l0 kq a2 t240 t250 x14_3 = some r) ∧ Aside0 (kq ≤ kj18) ∧ Aside0 (Kd.S k36 36 w' w.heap.size (fun _ => True) (.slice Ao53 t250.length co53) t250) ∧ Aside0 (Below w.heap.size w w'))
        case atStart => exact ⟨(0), (by first | rfl | (simp; done) | (simp [*]; done)), H', ⟨Nat.le_refl _⟩, ⟨by (with_reducible repeat (first | apply Kd.S_alloc | apply Kd.S_drewN | apply Kd.S_drew)); exact Kd.S_mono HO_12.out (fun _ hk => trivial)⟩, ⟨by repeat (first | (with_reducible first | exact HB.out | apply below_alloc | apply pw_below_drewN | apply below_drew1) | exact HB.out)⟩⟩
        case round =>
         clear H'
         try clear c1
         try clear c2
         try clear p2
         try clear c3
         try clear c4
         try clear c5
         try clear c6
         try clear c7
         try clear c8
         try clear c9
         try clear c9b0
         try clear c11
         try clear c11b0
         try clear c12
         try clear c13
         try clear c15
         try clear c24
         try clear c24b0
         try clear c24b1
         try clear c25
         try clear c25b0
         try clear c25b1
         try clear c26
         try clear c26b0
         try clear c26b1
         try clear c28
         try clear c30
         try clear c30b0
         try clear c30b1
         try clear c32
         try clear c49
         try clear c52
         try clear p2
         obtain ⟨x14_3, rfl, HA, HK3, HO_12, HB⟩ := hrel
         cases gk with
         | zero => exact absurd HA.out (by simp [sidinglaw15_HunkWide.l0])
         | succ k3 =>
          have H := HA.out
          clear HA
          simp only [sidinglaw15_HunkWide.l0] at H
          by_cases c56 : x14_3 < (t250.length : Int)
          ·rw [if_pos c56] at H
           have c56b0 : decide (x14_3 < (t250.length : Int)) = true := decide_eq_true c56
           clear c56
           by_cases c57 : 0 ≤ x14_3
           ·rw [if_pos c57] at H
            have c57b0 : decide (0 ≤ x14_3) = true := decide_eq_true c57
            clear c57
            replace H := Option.bind_eq_some_iff.mp H
            obtain ⟨t262, A580, H⟩ := H
            replace H : (if t262 < a2 then (if ((rd_T36 t250 x14_3).f0) > 0 then (some false) else (sidinglaw15_HunkWide.l0 k3 a2 t240 t250 (wrap64 (x14_3 + 1)))) else (sidinglaw15_HunkWide.l0 k3 a2 t240 t250 (wrap64 (x14_3 + 1)))) = some r := H
            have A58 := Aside0.mk A580
            clear A580
            by_cases c59 : t262 < a2
            ·rw [if_pos c59] at H
             have c59b0 : decide (t262 < a2) = true := decide_eq_true c59
             clear c59
             by_cases c60 : ((rd_T36 t250 x14_3).f0) > 0
             ·rw [if_pos c60] at H
              have c60b0 : decide (0 < ((rd_T36 t250 x14_3).f0)) = true := decide_eq_true c60
              clear c60
              exact absurd ((Option.some.inj H).trans hr_.out) (by decide)
             ·rw [if_neg c60] at H
              have c60b0 : decide (0 < ((rd_T36 t250 x14_3).f0)) = false := decide_eq_false c60
              clear c60
              have H' := Aside0.mk H
              clear H
              have p261 : 0 ≤ (x14_3 : Int) := of_decide_eq_true (by first | (with_reducible assumption) | assumption)
              have q261 : x14_3 < (t250.length : Int) := of_decide_eq_true (by first | (with_reducible assumption) | assumption)
              obtain ⟨ad261, A261_1, c261_1, A261_2, c261_2, e261, hx261_0, hx261_1, hx261_2, hl261_1, hi261_1, hl261_2, hi261_2⟩ := at_T36 (Kd.S_reads' HO_12.out).2.2 x14_3 p261 q261
              cases e261
              obtain ⟨ce261, hce261, hMe261, hcc261⟩ := Kd.S_get HO_12.out z36 x14_3 p261 (by first | exact q261 | exact of_decide_eq_true (by first | (with_reducible assumption) | assumption) | (have e_ := (Kd.S_reads' HO_12.out).1; omega))
              obtain ⟨ve261_1, ve261_2, rfl, ge261_1, ge261_2⟩ := k36_openM hMe261
              have hv261_1 := hcc261 1 _ rfl
              rw [add_field _ _ 1 (by omega)] at hv261_1
              replace hv261_1 := Option.some.inj (hv261_1.symm.trans hx261_1)
              rw [hv261_1] at ge261_1
              have HL261_1 := Aside0.mk (show Kd.R Kd.string 9 _ _ _ _ ((rd_T36 t250 x14_3).f1) from ge261_1)
              clear hv261_1 ge261_1
              have hv261_2 := hcc261 2 _ rfl
              rw [add_field _ _ 2 (by omega)] at hv261_2
              replace hv261_2 := Option.some.inj (hv261_2.symm.trans hx261_2)
              rw [hv261_2] at ge261_2
              have HL261_2 := Aside0.mk (show Kd.R Kd.string 9 _ _ _ _ ((rd_T36 t250 x14_3).f2) from ge261_2)
              clear hv261_2 ge261_2
              clear hcc261 hce261
              have HR261_1 := Aside0.mk hi261_1
              have HC261_1 := Aside0.mk hl261_1
              clear hi261_1 hl261_1
              have HR261_2 := Aside0.mk hi261_2
              have HC261_2 := Aside0.mk hl261_2
              clear hi261_2 hl261_2
              replace p261 := eq_true p261
              replace q261 := eq_true q261
              go_wp2_with (first | ((with_reducible refine gate_callee (f := 14) rfl ?_); refine goesL_ (some 103) rfl rfl Tryd.func14 (by kernel_rfl) rfl #[.agg #[.int .i64 ((rd_T36 t250 x14_3).f0), .slice A261_1 ((rd_T36 t250 x14_3).f1).length c261_1, .slice A261_2 ((rd_T36 t250 x14_3).f2).length c261_2]] rfl (by (try simp only [List.map_toArray, List.map_cons, List.map_nil]); first | done | rfl | (simp only [List.length_drop, List.length_take]; rfl)) ?_; (with_reducible refine (sidinglaw15_front.calls k3 ((rd_T36 t250 x14_3).f0) _ _ ((rd_T36 t250 x14_3).f1) _ _ ((rd_T36 t250 x14_3).f2) t262 _ ?side1 ?side2 ?side3 ?side4 A58.out).mono ?_); (case side1 => repeat (first | exact (by repeat (first | (with_reducible exact HR261_1.out) | (with_reducible refine Kd.C_alloc ?_ _) | (with_reducible refine Kd.C_drewN ?_ _) | (with_reducible refine Kd.C_drew ?_) | exact HR261_1.out)) | (with_reducible refine Kd.C_alloc ?_ _) | (with_reducible refine Kd.C_drewN ?_ _) | (with_reducible refine Kd.C_drew ?_))); (case side2 => exact HC261_1.out); (case side3 => repeat (first | exact (by repeat (first | (with_reducible exact HR261_2.out) | (with_reducible refine Kd.C_alloc ?_ _) | (with_reducible refine Kd.C_drewN ?_ _) | (with_reducible refine Kd.C_drew ?_) | exact HR261_2.out)) | (with_reducible refine Kd.C_alloc ?_ _) | (with_reducible refine Kd.C_drewN ?_ _) | (with_reducible refine Kd.C_drew ?_))); (case side4 => exact HC261_2.out); rintro e w61 ⟨rfl, hb⟩; refine ⟨_, rfl, ?_⟩; have n0_ := Aside0.mk (Kd.S_below (by (with_reducible repeat (first | apply Kd.S_alloc | apply Kd.S_drewN | apply Kd.S_drew)); exact HO_12.out) hb); have n1_ := Aside0.mk (Kd.R_below (by (with_reducible repeat (first | apply Kd.R_alloc | apply Kd.R_drewN | apply Kd.R_drew)); exact HL261_1.out) hb); have n2_ := Aside0.mk (Kd.R_below (by (with_reducible repeat (first | apply Kd.R_alloc | apply Kd.R_drewN | apply Kd.R_drew)); exact HL261_2.out) hb); have n3_ := Aside0.mk (Kd.C_below (by repeat (first | (with_reducible exact HR261_1.out) | (with_reducible refine Kd.C_alloc ?_ _) | (with_reducible refine Kd.C_drewN ?_ _) | (with_reducible refine Kd.C_drew ?_) | exact HR261_1.out)) hb); have n4_ := Aside0.mk (Kd.C_below (by repeat (first | (with_reducible exact HR261_2.out) | (with_reducible refine Kd.C_alloc ?_ _) | (with_reducible refine Kd.C_drewN ?_ _) | (with_reducible refine Kd.C_drew ?_) | exact HR261_2.out)) hb); have n5_ := Aside0.mk (below_step (by repeat (first | (with_reducible first | exact HB.out | apply below_alloc | apply pw_below_drewN | apply below_drew1) | exact HB.out)) hb); clear HO_12; clear HL261_1; clear HL261_2; clear HR261_1; clear HR261_2; clear HB; have HO_12 := n0_; have HL261_1 := n1_; have HL261_2 := n2_; have HR261_1 := n3_; have HR261_2 := n4_; have HB := n5_; clear n0_ n1_ n2_ n3_ n4_ n5_; (try clear hb); (try clear hb2); (try clear hk); (try clear hi); have p263 : 0 ≤ (x14_3 : Int) := of_decide_eq_true (by first | (with_reducible assumption) | assumption); have q263 : x14_3 < (t250.length : Int) := of_decide_eq_true (by first | (with_reducible assumption) | assumption); obtain ⟨ad263, A263_1, c263_1, A263_2, c263_2, e263, hx263_0, hx263_1, hx263_2, hl263_1, hi263_1, hl263_2, hi263_2⟩ := at_T36 (Kd.S_reads' HO_12.out).2.2 x14_3 p263 q263; obtain rfl : ad261 = ad263 := (by injection e263); obtain ⟨ce263, hce263, hMe263, hcc263⟩ := Kd.S_get HO_12.out z36 x14_3 p263 (by first | exact q263 | exact of_decide_eq_true (by first | (with_reducible assumption) | assumption) | (have e_ := (Kd.S_reads' HO_12.out).1; omega)); obtain ⟨ve263_1, ve263_2, rfl, ge263_1, ge263_2⟩ := k36_openM hMe263; have hv263_1 := hcc263 1 _ rfl; rw [add_field _ _ 1 (by omega)] at hv263_1; replace hv263_1 := Option.some.inj (hv263_1.symm.trans hx263_1); rw [hv263_1] at ge263_1; have HL263_1 := Aside0.mk (show Kd.R Kd.string 9 _ _ _ _ ((rd_T36 t250 x14_3).f1) from ge263_1); clear hv263_1 ge263_1; have hv263_2 := hcc263 2 _ rfl; rw [add_field _ _ 2 (by omega)] at hv263_2; replace hv263_2 := Option.some.inj (hv263_2.symm.trans hx263_2); rw [hv263_2] at ge263_2; have HL263_2 := Aside0.mk (show Kd.R Kd.string 9 _ _ _ _ ((rd_T36 t250 x14_3).f2) from ge263_2); clear hv263_2 ge263_2; clear hcc263 hce263; have HR263_1 := Aside0.mk hi263_1; have HC263_1 := Aside0.mk hl263_1; clear hi263_1 hl263_1; have HR263_2 := Aside0.mk hi263_2; have HC263_2 := Aside0.mk hl263_2; clear hi263_2 hl263_2; replace p263 := eq_true p263; replace q263 := eq_true q263))
              go_roundg k3
              case measure => have := HJ4.out; have := HJ18.out; have := HK3.out; omega
              case rel => exact ⟨(wrap64 (x14_3 + 1)), (by first | rfl | (simp; done) | (simp [*]; done)), H', ⟨by have := HJ4.out; have := HJ18.out; have := HK3.out; omega⟩, ⟨by (with_reducible repeat (first | apply Kd.S_alloc | apply Kd.S_drewN | apply Kd.S_drew)); exact HO_12.out⟩, ⟨by repeat (first | (with_reducible first | exact HB.out | apply below_alloc | apply pw_below_drewN | apply below_drew1) | exact HB.out)⟩⟩
            ·rw [if_neg c59] at H
             have c59b0 : decide (t262 < a2) = false := decide_eq_false c59
             clear c59
             have H' := Aside0.mk H
             clear H
             have p261 : 0 ≤ (x14_3 : Int) := of_decide_eq_true (by first | (with_reducible assumption) | assumption)
             have q261 : x14_3 < (t250.length : Int) := of_decide_eq_true (by first | (with_reducible assumption) | assumption)
             obtain ⟨ad261, A261_1, c261_1, A261_2, c261_2, e261, hx261_0, hx261_1, hx261_2, hl261_1, hi261_1, hl261_2, hi261_2⟩ := at_T36 (Kd.S_reads' HO_12.out).2.2 x14_3 p261 q261
             cases e261
             obtain ⟨ce261, hce261, hMe261, hcc261⟩ := Kd.S_get HO_12.out z36 x14_3 p261 (by first | exact q261 | exact of_decide_eq_true (by first | (with_reducible assumption) | assumption) | (have e_ := (Kd.S_reads' HO_12.out).1; omega))
             obtain ⟨ve261_1, ve261_2, rfl, ge261_1, ge261_2⟩ := k36_openM hMe261
             have hv261_1 := hcc261 1 _ rfl
             rw [add_field _ _ 1 (by omega)] at hv261_1
             replace hv261_1 := Option.some.inj (hv261_1.symm.trans hx261_1)
             rw [hv261_1] at ge261_1
             have HL261_1 := Aside0.mk (show Kd.R Kd.string 9 _ _ _ _ ((rd_T36 t250 x14_3).f1) from ge261_1)
             clear hv261_1 ge261_1
             have hv261_2 := hcc261 2 _ rfl
             rw [add_field _ _ 2 (by omega)] at hv261_2
             replace hv261_2 := Option.some.inj (hv261_2.symm.trans hx261_2)
             rw [hv261_2] at ge261_2
             have HL261_2 := Aside0.mk (show Kd.R Kd.string 9 _ _ _ _ ((rd_T36 t250 x14_3).f2) from ge261_2)
             clear hv261_2 ge261_2
             clear hcc261 hce261
             have HR261_1 := Aside0.mk hi261_1
             have HC261_1 := Aside0.mk hl261_1
             clear hi261_1 hl261_1
             have HR261_2 := Aside0.mk hi261_2
             have HC261_2 := Aside0.mk hl261_2
             clear hi261_2 hl261_2
             replace p261 := eq_true p261
             replace q261 := eq_true q261
             go_wp2_with (first | ((with_reducible refine gate_callee (f := 14) rfl ?_); refine goesL_ (some 103) rfl rfl Tryd.func14 (by kernel_rfl) rfl #[.agg #[.int .i64 ((rd_T36 t250 x14_3).f0), .slice A261_1 ((rd_T36 t250 x14_3).f1).length c261_1, .slice A261_2 ((rd_T36 t250 x14_3).f2).length c261_2]] rfl (by (try simp only [List.map_toArray, List.map_cons, List.map_nil]); first | done | rfl | (simp only [List.length_drop, List.length_take]; rfl)) ?_; (with_reducible refine (sidinglaw15_front.calls k3 ((rd_T36 t250 x14_3).f0) _ _ ((rd_T36 t250 x14_3).f1) _ _ ((rd_T36 t250 x14_3).f2) t262 _ ?side1 ?side2 ?side3 ?side4 A58.out).mono ?_); (case side1 => repeat (first | exact (by repeat (first | (with_reducible exact HR261_1.out) | (with_reducible refine Kd.C_alloc ?_ _) | (with_reducible refine Kd.C_drewN ?_ _) | (with_reducible refine Kd.C_drew ?_) | exact HR261_1.out)) | (with_reducible refine Kd.C_alloc ?_ _) | (with_reducible refine Kd.C_drewN ?_ _) | (with_reducible refine Kd.C_drew ?_))); (case side2 => exact HC261_1.out); (case side3 => repeat (first | exact (by repeat (first | (with_reducible exact HR261_2.out) | (with_reducible refine Kd.C_alloc ?_ _) | (with_reducible refine Kd.C_drewN ?_ _) | (with_reducible refine Kd.C_drew ?_) | exact HR261_2.out)) | (with_reducible refine Kd.C_alloc ?_ _) | (with_reducible refine Kd.C_drewN ?_ _) | (with_reducible refine Kd.C_drew ?_))); (case side4 => exact HC261_2.out); rintro e w62 ⟨rfl, hb⟩; refine ⟨_, rfl, ?_⟩; have n0_ := Aside0.mk (Kd.S_below (by (with_reducible repeat (first | apply Kd.S_alloc | apply Kd.S_drewN | apply Kd.S_drew)); exact HO_12.out) hb); have n1_ := Aside0.mk (Kd.R_below (by (with_reducible repeat (first | apply Kd.R_alloc | apply Kd.R_drewN | apply Kd.R_drew)); exact HL261_1.out) hb); have n2_ := Aside0.mk (Kd.R_below (by (with_reducible repeat (first | apply Kd.R_alloc | apply Kd.R_drewN | apply Kd.R_drew)); exact HL261_2.out) hb); have n3_ := Aside0.mk (Kd.C_below (by repeat (first | (with_reducible exact HR261_1.out) | (with_reducible refine Kd.C_alloc ?_ _) | (with_reducible refine Kd.C_drewN ?_ _) | (with_reducible refine Kd.C_drew ?_) | exact HR261_1.out)) hb); have n4_ := Aside0.mk (Kd.C_below (by repeat (first | (with_reducible exact HR261_2.out) | (with_reducible refine Kd.C_alloc ?_ _) | (with_reducible refine Kd.C_drewN ?_ _) | (with_reducible refine Kd.C_drew ?_) | exact HR261_2.out)) hb); have n5_ := Aside0.mk (below_step (by repeat (first | (with_reducible first | exact HB.out | apply below_alloc | apply pw_below_drewN | apply below_drew1) | exact HB.out)) hb); clear HO_12; clear HL261_1; clear HL261_2; clear HR261_1; clear HR261_2; clear HB; have HO_12 := n0_; have HL261_1 := n1_; have HL261_2 := n2_; have HR261_1 := n3_; have HR261_2 := n4_; have HB := n5_; clear n0_ n1_ n2_ n3_ n4_ n5_; (try clear hb); (try clear hb2); (try clear hk); (try clear hi)))
             go_roundg k3
             case measure => have := HJ4.out; have := HJ18.out; have := HK3.out; omega
             case rel => exact ⟨(wrap64 (x14_3 + 1)), (by first | rfl | (simp; done) | (simp [*]; done)), H', ⟨by have := HJ4.out; have := HJ18.out; have := HK3.out; omega⟩, ⟨by (with_reducible repeat (first | apply Kd.S_alloc | apply Kd.S_drewN | apply Kd.S_drew)); exact HO_12.out⟩, ⟨by repeat (first | (with_reducible first | exact HB.out | apply below_alloc | apply pw_below_drewN | apply below_drew1) | exact HB.out)⟩⟩
           ·rw [if_neg c57] at H
            exact absurd H (by simp)
          ·rw [if_neg c56] at H
           have c56b0 : decide (x14_3 < (t250.length : Int)) = false := decide_eq_false c56
           clear c56
           obtain rfl := Option.some.inj H
           go_wp2
           go_ret
           exact ⟨by first | rfl | (simp [errW_none, errW_some] <;> rfl) | (simp [*, errW_none, errW_some] <;> rfl), by repeat (first | (with_reducible first | exact HB.out | apply below_alloc | apply pw_below_drewN | apply below_drew1) | exact HB.out)⟩
       ·replace c52 := Bool.eq_false_iff.mpr c52
        subst c52
        have H1 : (some false) = some r := by rw [if_neg (show ¬ (false = true) by decide)] at H; exact H
        clear H
        have H := H1
        clear H1
        exact absurd ((Option.some.inj H).trans hr_.out) (by decide)
def sidinglaw15_HunkWide.Pure : Prop := ∀ (l0 : List ByteArray) (l1 : List ByteArray) (a2 : Int), (l0.length * 16 ≤ 140737488351232 ∧ ∀ x0_ ∈ l0, x0_.size ≤ 140737488351232) → (l1.length * 16 ≤ 140737488351232 ∧ ∀ x0_ ∈ l1, x0_.size ≤ 140737488351232) → ((Lit.int .i64 a2).wf = true) → ∃ k, sidinglaw15_HunkWide.f k l0 l1 a2 = some true
theorem sidinglaw15_HunkWide.walk (P : sidinglaw15_HunkWide.Pure) (A0 : Option Addr) (c0 : Nat) (l0 : List ByteArray) (A1 : Option Addr) (c1 : Nat) (l1 : List ByteArray) (a2 : Int) (w : World) (hr0 : Kd.C Kd.string w A0 l0.length l0) (hc0 : l0.length ≤ c0) (hr1 : Kd.C Kd.string w A1 l1.length l1) (hc1 : l1.length ≤ c1) (hw0 : l0.length * 16 ≤ 140737488351232 ∧ ∀ x0_ ∈ l0, x0_.size ≤ 140737488351232) (hw1 : l1.length * 16 ≤ 140737488351232 ∧ ∀ x0_ ∈ l1, x0_.size ≤ 140737488351232) (hw2 : (Lit.int .i64 a2).wf = true) :
  Calls Tryd.prog 3 #[.slice A0 l0.length c0, .slice A1 l1.length c1, .int .i64 a2] w fun e w' => e = .returned (.bool true) ∧ Below w.heap.size w w' := by
 obtain ⟨k, h⟩ := P l0 l1 a2 hw0 hw1 hw2
 refine (sidinglaw15_HunkWide.calls k A0 c0 l0 A1 c1 l1 a2 true w hr0 hc0 hr1 hc1 h ⟨rfl⟩).mono ?_
 rintro e w' ⟨rfl, hd⟩
 exact ⟨rfl, hd⟩
end Go.Proofs.YtognfinkolpemaaDoor.Pr
end
section
namespace Go.Proofs.YtognfinkolpemaaDoor.Pr
open Go.RowKit Go.Proofs.YtognfinkolpemaaDoorW.PrintWords Go.Proofs.YtognfinkolpemaaDoorW.PrintLast Go.Proofs.YtognfinkolpemaaDoorW.PrintMore
def tiny (l : List ByteArray) : Prop := ∀ s ∈ l, s.size ≤ 1000000000
theorem tiny.small {l : List ByteArray} (h : tiny l) : small l := fun s hs => by have := h s hs; omega
theorem tiny.take {l : List ByteArray} (h : tiny l) (i : Nat) : tiny (l.take i) := fun s hs => h s (List.mem_of_mem_take hs)
theorem tiny.drop {l : List ByteArray} (h : tiny l) (i : Nat) : tiny (l.drop i) := fun s hs => h s (List.mem_of_mem_drop hs)
theorem tiny.append {l m : List ByteArray} (h : tiny l) (k : tiny m) : tiny (l ++ m) := fun s hs => (List.mem_append.1 hs).elim (h s) (k s)
theorem bytesIn_tiny (l : List ByteArray) (h : tiny l) : bytesIn l ≤ l.length * 1000000000 := by
 induction l with
 | nil => simp [bytesIn]
 | cons s l ih =>
  have h1 := h s (by simp)
  have h2 := ih (fun x hx => h x (by simp [hx]))
  simp only [bytesIn, List.map_cons, List.sum_cons, List.length_cons] at h2 ⊢
  omega
def fed (l : List ByteArray) : List Int := (l.map fun s => 10 :: bytesOf s).flatten
def textOf (l : List ByteArray) : List Int := (fed l).drop 1
theorem fed_length (l : List ByteArray) : (fed l).length = bytesIn l + l.length := by
 induction l with
 | nil => rfl
 | cons s l ih =>
  have e : fed (s :: l) = (10 :: bytesOf s) ++ fed l := by simp [fed]
  rw [e, List.length_append, ih, List.length_cons, bytesOf_length]
  simp only [bytesIn, List.map_cons, List.sum_cons, List.length_cons]
  omega
theorem textOf_length (l : List ByteArray) : (textOf l).length = bytesIn l + l.length - 1 := by
 rw [textOf, List.length_drop, fed_length]
theorem fed_take_succ (l : List ByteArray) (i : Nat) (h : i < l.length) : fed (l.take (i + 1)) = fed (l.take i) ++ 10 :: bytesOf l[i] := by
 unfold fed
 rw [take_succ_at l i h, List.map_append, List.flatten_append]
 simp
theorem textOf_take_succ (l : List ByteArray) (i : Nat) (h : i < l.length) : textOf (l.take (i + 1)) = if i = 0 then bytesOf l[i] else textOf (l.take i) ++ 10 :: bytesOf l[i] := by
 unfold textOf
 rw [fed_take_succ l i h]
 by_cases h0 : i = 0
 ·subst h0
  simp [fed]
 ·rw [if_neg h0]
  have := fed_length (l.take i)
  have h1 : (l.take i).length = i := by rw [List.length_take]; omega
  rw [List.drop_append_of_le_length (by omega)]
end Go.Proofs.YtognfinkolpemaaDoor.Pr
end
section
namespace Go.Proofs.YtognfinkolpemaaDoor.Pr
open Go.RowKit Go.Proofs.YtognfinkolpemaaDoorW.PrintWords Go.Proofs.YtognfinkolpemaaDoorW.PrintLast Go.Proofs.YtognfinkolpemaaDoorW.PrintMore
theorem text_loop (l : List ByteArray) (hs : tiny l) (hl : l.length ≤ 100000) : ∀ (d i : Nat), i + d = l.length → Ev (fun k => sidingref13_Text.l0 k l (textOf (l.take i)) (i : Int)) (textOf l) := by
 intro d
 induction d with
 | zero =>
  intro i hi
  obtain rfl : i = l.length := by omega
  refine Ev.step (fun k => by rw [sidingref13_Text.l0]) (Ev.neg (by omega) ?_)
  rw [List.take_length]
  exact Ev.now _
 | succ d ih =>
  intro i hi
  have hlt : i < l.length := by omega
  have hb := bytesIn_tiny _ (hs.take (i + 1))
  have hb1 := bytesIn_take_succ l i hlt
  have hk : (l.take (i + 1)).length = i + 1 := by rw [List.length_take]; omega
  have hk' : (l.take i).length = i := by rw [List.length_take]; omega
  have ht := textOf_length (l.take i)
  refine Ev.step (fun k => by rw [sidingref13_Text.l0]) (Ev.pos (by omega) ?_)
  have h := ih (i + 1) (by omega)
  rw [textOf_take_succ l i hlt] at h
  rw [rdOf_at _ _ _ hlt, w64 (by omega)]
  by_cases h0 : i = 0
  ·subst h0
   rw [if_pos rfl] at h
   refine Ev.neg (by omega) (Ev.pos (by omega) (Ev.pos (by omega) ?_))
   simpa [textOf, fed] using h
  ·rw [if_neg h0] at h
   refine Ev.pos (by omega) (Ev.pos (by omega) (Ev.bs (Ev.pos (by omega) (Ev.pos ?_ ?_))))
   ·rw [List.length_append, List.length_singleton]
    omega
   ·simpa using h
theorem text_ev (l : List ByteArray) (hs : tiny l) (hl : l.length ≤ 100000) : Ev (fun k => sidingref13_Text.f k l) (textOf l) := by
 unfold sidingref13_Text.f
 have h := text_loop l hs hl l.length 0 (by omega)
 simpa [textOf, fed] using h
theorem feed_ev (l : List ByteArray) (hs : tiny l) : ref13_Feed.f l = some (l.any feedy) := by
 unfold ref13_Feed.f
 rw [if_pos]
 exact List.all_eq_true.2 fun s hm => decide_eq_true (by have := hs s hm; omega)
theorem rlines_ev (l : List ByteArray) (hs : tiny l) : Ev (fun k => sidingref13_Lines.f k l) (linesErr l) := by
 unfold sidingref13_Lines.f linesErr
 by_cases h1 : 60 < l.length
 ·rw [if_pos h1]
  exact Ev.pos (by omega) (Ev.step (fun k => by rw [sidingref13_Lines.j0]) (Ev.pos rfl (Ev.now _)))
 ·rw [if_neg h1]
  refine Ev.neg (by omega) (Ev.bd (text_ev l hs (by omega)) ?_)
  have ht := textOf_length l
  refine Ev.step (fun k => by rw [sidingref13_Lines.j0]) ?_
  by_cases h2 : 2001 < bytesIn l + l.length
  ·rw [if_pos h2]
   exact Ev.pos (decide_eq_true (by omega)) (Ev.now _)
  ·rw [if_neg h2]
   refine Ev.neg (by simp; omega) ?_
   by_cases h3 : l.length = 0
   ·rw [if_pos h3]
    exact Ev.pos (by omega) (Ev.now _)
   ·rw [if_neg h3]
    refine Ev.neg (by omega) (Ev.bc (feed_ev l hs) ?_)
    by_cases h4 : l.any feedy = true
    ·exact Ev.pos h4 (Ev.rt (if_pos h4).symm)
    ·exact Ev.neg h4 (Ev.rt (if_neg h4).symm)
def longOf (l : List ByteArray) : Bool := (l.take 201).any (fun s => decide (3000 < s.size)) || decide (200 < l.length)
theorem long_loop (l : List ByteArray) (hl : l.length ≤ 9000000000000000000) : ∀ (d i : Nat), i + d = 201 → Ev (fun k => sidingref13_Long.l0 k l (i : Int)) (((l.take 201).drop i).any (fun s => decide (3000 < s.size)) || decide (200 < l.length)) := by
 intro d
 induction d with
 | zero =>
  intro i hi
  obtain rfl : i = 201 := by omega
  have e : (l.take 201).drop 201 = [] := List.drop_eq_nil_of_le (by rw [List.length_take]; omega)
  rw [e]
  refine Ev.step (fun k => by rw [sidingref13_Long.l0]) ?_
  by_cases h : 201 < l.length
  ·refine Ev.pos (by omega) (Ev.step (fun k => by rw [sidingref13_Long.j1]) (Ev.neg (by decide) (Ev.rt ?_)))
   simp
   omega
  ·refine Ev.neg (by omega) (Ev.step (fun k => by rw [sidingref13_Long.j1]) (Ev.neg (by decide) (Ev.rt ?_)))
   simp
   omega
 | succ d ih =>
  intro i hi
  refine Ev.step (fun k => by rw [sidingref13_Long.l0]) ?_
  by_cases h : i < l.length
  ·have hlt : i < (l.take 201).length := by rw [List.length_take]; omega
   have e : (l.take 201).drop i = l[i] :: (l.take 201).drop (i + 1) := by rw [drop_at _ i hlt]; simp
   rw [e, List.any_cons]
   refine Ev.pos (by omega) (Ev.step (fun k => by rw [sidingref13_Long.j1]) (Ev.pos (by simp; omega) (Ev.pos (by omega) (Ev.pos (by omega) ?_))))
   rw [rdOf_at _ _ _ h, w64 (by omega)]
   by_cases h3 : 3000 < l[i].size
   ·refine Ev.pos (by omega) (Ev.rt ?_)
    simp [h3]
   ·refine Ev.neg (by omega) ?_
    have := ih (i + 1) (by omega)
    simpa [h3] using this
  ·have e : (l.take 201).drop i = [] := List.drop_eq_nil_of_le (by rw [List.length_take]; omega)
   rw [e]
   refine Ev.neg (by omega) (Ev.step (fun k => by rw [sidingref13_Long.j1]) (Ev.neg (by decide) (Ev.rt ?_)))
   simp
   omega
theorem long_ev (l : List ByteArray) (hl : l.length ≤ 9000000000000000000) : Ev (fun k => sidingref13_Long.f k l) (longOf l) := by
 unfold sidingref13_Long.f
 have h := long_loop l hl 201 0 (by omega)
 simpa [longOf] using h
theorem longOf_false {l : List ByteArray} (h : longOf l = false) : l.length ≤ 200 ∧ ∀ s ∈ l, s.size ≤ 3000 := by
 unfold longOf at h
 rw [Bool.or_eq_false_iff] at h
 obtain ⟨h1, h2⟩ := h
 have hl : l.length ≤ 200 := by simpa using h2
 rw [List.take_of_length_le (by omega), List.any_eq_false] at h1
 exact ⟨hl, fun s hs => by simpa using h1 s hs⟩
theorem longOf_tiny {l : List ByteArray} (h : longOf l = false) : l.length ≤ 200 ∧ tiny l := ⟨(longOf_false h).1, fun s hs => by have := (longOf_false h).2 s hs; omega⟩
theorem same_loop (a b : List ByteArray) (hl : a.length = b.length) (hb : a.length ≤ 9000000000000000000) : ∀ (d i : Nat), i + d = a.length → Ev (fun k => sidingref13_Same.l0 k a b (i : Int)) (decide (a.drop i = b.drop i)) := by
 intro d
 induction d with
 | zero =>
  intro i hi
  obtain rfl : i = a.length := by omega
  refine Ev.step (fun k => by rw [sidingref13_Same.l0]) (Ev.neg (by omega) (Ev.rt ?_))
  rw [List.drop_length, hl, List.drop_length]
  rfl
 | succ d ih =>
  intro i hi
  have h1 : i < a.length := by omega
  have h2 : i < b.length := by omega
  refine Ev.step (fun k => by rw [sidingref13_Same.l0]) (Ev.pos (by omega) (Ev.pos (by omega) (Ev.pos (by omega) ?_)))
  rw [rdOf_at _ _ _ h1, rdOf_at _ _ _ h2, w64 (by omega), drop_at a i h1, drop_at b i h2]
  by_cases h : a[i] = b[i]
  ·refine Ev.pos (toList_inj.2 h) ?_
   refine Ev.eq ?_ (ih (i + 1) (by omega))
   rw [Bool.eq_iff_iff, decide_eq_true_iff, decide_eq_true_iff, h, List.cons.injEq]
   simp
  ·refine Ev.neg (fun e => h (toList_inj.1 e)) (Ev.rt ?_)
   symm
   rw [decide_eq_false_iff_not, List.cons.injEq]
   exact fun e => h e.1
theorem same_ev (a b : List ByteArray) (hb : a.length ≤ 9000000000000000000) : Ev (fun k => sidingref13_Same.f k a b) (decide (a = b)) := by
 unfold sidingref13_Same.f
 by_cases h : a.length = b.length
 ·refine Ev.pos (by omega) ?_
  have := same_loop a b h hb a.length 0 (by omega)
  simpa using this
 ·refine Ev.neg (by omega) (Ev.rt ?_)
  symm
  rw [decide_eq_false_iff_not]
  intro e
  exact h (by rw [e])
end Go.Proofs.YtognfinkolpemaaDoor.Pr
end
