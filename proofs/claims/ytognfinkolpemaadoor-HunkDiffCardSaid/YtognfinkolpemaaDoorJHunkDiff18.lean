/- Part 18 of the proof of HunkDiff: texts put together. -/
import Derived.Test.YtognfinkolpemaaDoorJHunkDiff4
import Derived.Test.YtognfinkolpemaaDoorJHunkDiff5
import Derived.Test.YtognfinkolpemaaDoorJHunkDiff6
import Derived.Test.YtognfinkolpemaaDoorJHunkDiff11
import Derived.Test.YtognfinkolpemaaDoorJHunkDiff13
import Derived.Test.YtognfinkolpemaaDoorJHunkDiff14
import Derived.Test.YtognfinkolpemaaDoorJHunkDiff15
import Derived.Test.YtognfinkolpemaaDoorJHunkDiff16
import Derived.Test.YtognfinkolpemaaDoorJHunkDiff17
set_option linter.unusedVariables false
set_option linter.unusedSimpArgs false
section
namespace Go.Proofs.YtognfinkolpemaaDoor.Pr
open Go.RowKit Go.Proofs.YtognfinkolpemaaDoorW.PrintWords Go.Proofs.YtognfinkolpemaaDoorW.PrintLast Go.Proofs.YtognfinkolpemaaDoorW.PrintMore
attribute [local go_sem] max2_int min2_int max_two min_two max_three min_three max_four min_four   
mutual
def sidinglaw15_HunkDiff.j0 : Nat → List ByteArray → List ByteArray → Bool → Bool → Option (Bool)
 | 0, _, _, _, _ => none
 | k + 1, x0, x1, x5, x20 => if x20 = true then (some x5) else ((hunk_Diff.f k x0 x1).bind fun bt280 => ((lcs_Distance.f k x0 x1).bind fun bt284 => (if bt280.2 = 0 then (if bt284.2 = 0 then ((hunk_Check.f k bt280.1).bind fun t286 => (if t286 = 0 then ((sidingref15_Check.f k bt280.1).bind fun t287 => (if t287 = 0 then ((sidingref15_Fits.f k x0 bt280.1).bind fun t288 => (sidinglaw15_HunkDiff.j1 k x0 x1 x5 bt280.1 bt284.1 (!t288))) else (sidinglaw15_HunkDiff.j1 k x0 x1 x5 bt280.1 bt284.1 true))) else (sidinglaw15_HunkDiff.j1 k x0 x1 x5 bt280.1 bt284.1 true))) else (sidinglaw15_HunkDiff.j1 k x0 x1 x5 bt280.1 bt284.1 true)) else (sidinglaw15_HunkDiff.j1 k x0 x1 x5 bt280.1 bt284.1 true))))
def sidinglaw15_HunkDiff.j1 : Nat → List ByteArray → List ByteArray → Bool → List (S36) → Int → Bool → Option (Bool)
 | 0, _, _, _, _, _, _ => none
 | k + 1, x0, x1, x5, x6, x8, x55 => if x55 = true then (some false) else (sidinglaw15_HunkDiff.l0 k x0 x1 x5 x6 x8 0 0)
def sidinglaw15_HunkDiff.l0 : Nat → List ByteArray → List ByteArray → Bool → List (S36) → Int → Int → Int → Option (Bool)
 | 0, _, _, _, _, _, _, _ => none
 | k + 1, x0, x1, x5, x6, x8, x10, x11 => if x11 < (x6.length : Int) then (if 0 ≤ x11 then (sidinglaw15_HunkDiff.l0 k x0 x1 x5 x6 x8 (wrap64 (x10 + (wrap64 ((((rd_T36 x6 x11).f1).length : Int) + (((rd_T36 x6 x11).f2).length : Int))))) (wrap64 (x11 + 1))) else (none)) else (if x5 = true then ((sidingref15_Applied.f k x0 x6).bind fun t291 => ((sidingref13_Same.f k t291 x1).bind fun t294 => (if t294 = true then ((sidingref13_Same.f k x0 x1).bind fun t295 => (if (((x6.length : Int) == 0) == t295) = true then (some (x10 == x8)) else (some false))) else (some false)))) else (some false))
end
def sidinglaw15_HunkDiff.f (k : Nat) (l0 : List ByteArray) (l1 : List ByteArray) : Option (Bool) := (sidinglaw15_alive.f).bind fun t278 => ((sidinglaw15_fit.f k l0 l1).bind fun t279 => (if t279 = true then (sidinglaw15_HunkDiff.j0 k l0 l1 t278 (!t278)) else (sidinglaw15_HunkDiff.j0 k l0 l1 t278 true)))
set_option maxHeartbeats 8000000 in
set_option maxRecDepth 100000 in
theorem sidinglaw15_HunkDiff.calls (k : Nat) (A0 : Option Addr) (c0 : Nat) (l0 : List ByteArray) (A1 : Option Addr) (c1 : Nat) (l1 : List ByteArray) (r : Bool) (w : World) (hr0 : Kd.C Kd.string w A0 l0.length l0) (hc0 : l0.length ≤ c0) (hr1 : Kd.C Kd.string w A1 l1.length l1) (hc1 : l1.length ≤ c1) (h : sidinglaw15_HunkDiff.f k l0 l1 = some r) (hr_ : Aside0 (r = true)) :
  Calls Tryd.prog 4 #[.slice A0 l0.length c0, .slice A1 l1.length c1] w fun e w' => e = .returned (.bool r) ∧ Below w.heap.size w w' := by
 have HR0 := Aside0.mk hr0
 have HC0 := Aside0.mk hc0
 clear hr0 hc0
 have HR1 := Aside0.mk hr1
 have HC1 := Aside0.mk hc1
 clear hr1 hc1
 have HB := Aside0.mk (Below.refl w.heap.size w)
 have H : ((sidinglaw15_alive.f).bind fun t278 => ((sidinglaw15_fit.f k l0 l1).bind fun t279 => (if t279 = true then (sidinglaw15_HunkDiff.j0 k l0 l1 t278 (!t278)) else (sidinglaw15_HunkDiff.j0 k l0 l1 t278 true)))) = some r := h
 clear h
 replace H := Option.bind_eq_some_iff.mp H
 obtain ⟨t278, A30, H⟩ := H
 replace H : ((sidinglaw15_fit.f k l0 l1).bind fun t279 => (if t279 = true then (sidinglaw15_HunkDiff.j0 k l0 l1 t278 (!t278)) else (sidinglaw15_HunkDiff.j0 k l0 l1 t278 true))) = some r := H
 have A3 := Aside0.mk A30
 clear A30
 have HC4 := Aside0.mk H
 clear H
 go_enter Tryd.func4, Tryd.ntmps4
 go_upto_region 2 with (first | (go_at_call 5; (with_reducible refine (sidinglaw15_alive.calls  t278 _ A3.out).mono ?_); rintro e w5 ⟨rfl, hb⟩; have n0_ := Aside0.mk (below_step (by repeat (first | (with_reducible first | exact HB.out | apply below_alloc | apply pw_below_drewN | apply below_drew1) | exact HB.out)) hb); clear HB; have HB := n0_; clear n0_; (try clear hb); (try clear hb2); (try clear hk); (try clear hi)))
 repeat (go_quiet (first | (go_at_call 5; (with_reducible refine (sidinglaw15_alive.calls  t278 _ A3.out).mono ?_); rintro e w5 ⟨rfl, hb⟩; have n0_ := Aside0.mk (below_step (by repeat (first | (with_reducible first | exact HB.out | apply below_alloc | apply pw_below_drewN | apply below_drew1) | exact HB.out)) hb); clear HB; have HB := n0_; clear n0_; (try clear hb); (try clear hb2); (try clear hk); (try clear hi))); go_upto_region 2 with (first | (go_at_call 5; (with_reducible refine (sidinglaw15_alive.calls  t278 _ A3.out).mono ?_); rintro e w5 ⟨rfl, hb⟩; have n0_ := Aside0.mk (below_step (by repeat (first | (with_reducible first | exact HB.out | apply below_alloc | apply pw_below_drewN | apply below_drew1) | exact HB.out)) hb); clear HB; have HB := n0_; clear n0_; (try clear hb); (try clear hb2); (try clear hk); (try clear hi))))
 (try simp only [Act.put, List.setIfInBounds_toArray, List.set_cons_zero, List.set_cons_succ])
 go_cut [20] (fun v20 wc => ∃ (kq : Nat) (x20_3 : Bool), v20 = .bool x20_3 ∧ Aside0 (sidinglaw15_HunkDiff.j0 kq l0 l1 t278 x20_3 = some r) ∧ Aside0 (kq ≤ k) ∧ Aside0 (Below w.heap.size w wc))
 case first =>
  have H := HC4.out
  clear HC4
  replace H := Option.bind_eq_some_iff.mp H
  obtain ⟨t279, A60, H⟩ := H
  replace H : (if t279 = true then (sidinglaw15_HunkDiff.j0 k l0 l1 t278 (!t278)) else (sidinglaw15_HunkDiff.j0 k l0 l1 t278 true)) = some r := H
  have A6 := Aside0.mk A60
  clear A60
  by_cases c7 : t279 = true
  ·subst c7
   have H1 : (sidinglaw15_HunkDiff.j0 k l0 l1 t278 (!t278)) = some r := by rw [if_pos rfl] at H; exact H
   clear H
   have H := H1
   clear H1
   have H' := Aside0.mk H
   clear H
   go_wp2_with (first | (go_at_call 6; (with_reducible refine (sidinglaw15_fit.calls k _ _ l0 _ _ l1 true _ ?side1 ?side2 ?side3 ?side4 A6.out).mono ?_); (case side1 => repeat (first | exact (Kd.C_below HR0.out HB.out) | (with_reducible refine Kd.C_alloc ?_ _) | (with_reducible refine Kd.C_drewN ?_ _) | (with_reducible refine Kd.C_drew ?_))); (case side2 => exact HC0.out); (case side3 => repeat (first | exact (Kd.C_below HR1.out HB.out) | (with_reducible refine Kd.C_alloc ?_ _) | (with_reducible refine Kd.C_drewN ?_ _) | (with_reducible refine Kd.C_drew ?_))); (case side4 => exact HC1.out); rintro e w8 ⟨rfl, hb⟩; have n0_ := Aside0.mk (below_step (by repeat (first | (with_reducible first | exact HB.out | apply below_alloc | apply pw_below_drewN | apply below_drew1) | exact HB.out)) hb); clear HB; have HB := n0_; clear n0_; (try clear hb); (try clear hb2); (try clear hk); (try clear hi)))
   repeat (go_quiet (first | (go_at_call 6; (with_reducible refine (sidinglaw15_fit.calls k _ _ l0 _ _ l1 true _ ?side1 ?side2 ?side3 ?side4 A6.out).mono ?_); (case side1 => repeat (first | exact (Kd.C_below HR0.out HB.out) | (with_reducible refine Kd.C_alloc ?_ _) | (with_reducible refine Kd.C_drewN ?_ _) | (with_reducible refine Kd.C_drew ?_))); (case side2 => exact HC0.out); (case side3 => repeat (first | exact (Kd.C_below HR1.out HB.out) | (with_reducible refine Kd.C_alloc ?_ _) | (with_reducible refine Kd.C_drewN ?_ _) | (with_reducible refine Kd.C_drew ?_))); (case side4 => exact HC1.out); rintro e w8 ⟨rfl, hb⟩; have n0_ := Aside0.mk (below_step (by repeat (first | (with_reducible first | exact HB.out | apply below_alloc | apply pw_below_drewN | apply below_drew1) | exact HB.out)) hb); clear HB; have HB := n0_; clear n0_; (try clear hb); (try clear hb2); (try clear hk); (try clear hi))); try go_wp2_with (first | (go_at_call 6; (with_reducible refine (sidinglaw15_fit.calls k _ _ l0 _ _ l1 true _ ?side1 ?side2 ?side3 ?side4 A6.out).mono ?_); (case side1 => repeat (first | exact (Kd.C_below HR0.out HB.out) | (with_reducible refine Kd.C_alloc ?_ _) | (with_reducible refine Kd.C_drewN ?_ _) | (with_reducible refine Kd.C_drew ?_))); (case side2 => exact HC0.out); (case side3 => repeat (first | exact (Kd.C_below HR1.out HB.out) | (with_reducible refine Kd.C_alloc ?_ _) | (with_reducible refine Kd.C_drewN ?_ _) | (with_reducible refine Kd.C_drew ?_))); (case side4 => exact HC1.out); rintro e w8 ⟨rfl, hb⟩; have n0_ := Aside0.mk (below_step (by repeat (first | (with_reducible first | exact HB.out | apply below_alloc | apply pw_below_drewN | apply below_drew1) | exact HB.out)) hb); clear HB; have HB := n0_; clear n0_; (try clear hb); (try clear hb2); (try clear hk); (try clear hi))))
   go_meet
   case rel => exact ⟨_, (!t278), (by first | rfl | (simp; done) | (simp [*]; done)), H', ⟨by first | omega | exact Nat.le_refl _⟩, ⟨by repeat (first | (with_reducible first | exact HB.out | apply below_alloc | apply pw_below_drewN | apply below_drew1) | exact HB.out)⟩⟩
  ·replace c7 := Bool.eq_false_iff.mpr c7
   subst c7
   have H1 : (sidinglaw15_HunkDiff.j0 k l0 l1 t278 true) = some r := by rw [if_neg (show ¬ (false = true) by decide)] at H; exact H
   clear H
   have H := H1
   clear H1
   have H' := Aside0.mk H
   clear H
   go_wp2_with (first | (go_at_call 6; (with_reducible refine (sidinglaw15_fit.calls k _ _ l0 _ _ l1 false _ ?side1 ?side2 ?side3 ?side4 A6.out).mono ?_); (case side1 => repeat (first | exact (Kd.C_below HR0.out HB.out) | (with_reducible refine Kd.C_alloc ?_ _) | (with_reducible refine Kd.C_drewN ?_ _) | (with_reducible refine Kd.C_drew ?_))); (case side2 => exact HC0.out); (case side3 => repeat (first | exact (Kd.C_below HR1.out HB.out) | (with_reducible refine Kd.C_alloc ?_ _) | (with_reducible refine Kd.C_drewN ?_ _) | (with_reducible refine Kd.C_drew ?_))); (case side4 => exact HC1.out); rintro e w9 ⟨rfl, hb⟩; have n0_ := Aside0.mk (below_step (by repeat (first | (with_reducible first | exact HB.out | apply below_alloc | apply pw_below_drewN | apply below_drew1) | exact HB.out)) hb); clear HB; have HB := n0_; clear n0_; (try clear hb); (try clear hb2); (try clear hk); (try clear hi)))
   repeat (go_quiet (first | (go_at_call 6; (with_reducible refine (sidinglaw15_fit.calls k _ _ l0 _ _ l1 false _ ?side1 ?side2 ?side3 ?side4 A6.out).mono ?_); (case side1 => repeat (first | exact (Kd.C_below HR0.out HB.out) | (with_reducible refine Kd.C_alloc ?_ _) | (with_reducible refine Kd.C_drewN ?_ _) | (with_reducible refine Kd.C_drew ?_))); (case side2 => exact HC0.out); (case side3 => repeat (first | exact (Kd.C_below HR1.out HB.out) | (with_reducible refine Kd.C_alloc ?_ _) | (with_reducible refine Kd.C_drewN ?_ _) | (with_reducible refine Kd.C_drew ?_))); (case side4 => exact HC1.out); rintro e w9 ⟨rfl, hb⟩; have n0_ := Aside0.mk (below_step (by repeat (first | (with_reducible first | exact HB.out | apply below_alloc | apply pw_below_drewN | apply below_drew1) | exact HB.out)) hb); clear HB; have HB := n0_; clear n0_; (try clear hb); (try clear hb2); (try clear hk); (try clear hi))); try go_wp2_with (first | (go_at_call 6; (with_reducible refine (sidinglaw15_fit.calls k _ _ l0 _ _ l1 false _ ?side1 ?side2 ?side3 ?side4 A6.out).mono ?_); (case side1 => repeat (first | exact (Kd.C_below HR0.out HB.out) | (with_reducible refine Kd.C_alloc ?_ _) | (with_reducible refine Kd.C_drewN ?_ _) | (with_reducible refine Kd.C_drew ?_))); (case side2 => exact HC0.out); (case side3 => repeat (first | exact (Kd.C_below HR1.out HB.out) | (with_reducible refine Kd.C_alloc ?_ _) | (with_reducible refine Kd.C_drewN ?_ _) | (with_reducible refine Kd.C_drew ?_))); (case side4 => exact HC1.out); rintro e w9 ⟨rfl, hb⟩; have n0_ := Aside0.mk (below_step (by repeat (first | (with_reducible first | exact HB.out | apply below_alloc | apply pw_below_drewN | apply below_drew1) | exact HB.out)) hb); clear HB; have HB := n0_; clear n0_; (try clear hb); (try clear hb2); (try clear hk); (try clear hi))))
   go_meet
   case rel => exact ⟨_, (true), (by first | rfl | (simp; done) | (simp [*]; done)), H', ⟨by first | omega | exact Nat.le_refl _⟩, ⟨by repeat (first | (with_reducible first | exact HB.out | apply below_alloc | apply pw_below_drewN | apply below_drew1) | exact HB.out)⟩⟩
 case rest =>
  clear HC4
  try clear c1
  try clear p2
  try clear c4
  try clear c7
  obtain ⟨kq, x20_3, rfl, HA, HJ3, HB⟩ := hcut
  cases kq with
  | zero => exact absurd HA.out (by simp [sidinglaw15_HunkDiff.j0])
  | succ kj3 =>
   have H := HA.out
   clear HA
   simp only [sidinglaw15_HunkDiff.j0] at H
   by_cases c10 : x20_3 = true
   ·subst c10
    have H1 : (some t278) = some r := by rw [if_pos rfl] at H; exact H
    clear H
    have H := H1
    clear H1
    obtain rfl := Option.some.inj H
    go_wp2
    repeat (go_quiet (fail); try go_wp2)
    go_ret
    exact ⟨by first | rfl | (simp [errW_none, errW_some] <;> rfl) | (simp [*, errW_none, errW_some] <;> rfl), by repeat (first | (with_reducible first | exact HB.out | apply below_alloc | apply pw_below_drewN | apply below_drew1) | exact HB.out)⟩
   ·replace c10 := Bool.eq_false_iff.mpr c10
    subst c10
    have H1 : ((hunk_Diff.f kj3 l0 l1).bind fun bt280 => ((lcs_Distance.f kj3 l0 l1).bind fun bt284 => (if bt280.2 = 0 then (if bt284.2 = 0 then ((hunk_Check.f kj3 bt280.1).bind fun t286 => (if t286 = 0 then ((sidingref15_Check.f kj3 bt280.1).bind fun t287 => (if t287 = 0 then ((sidingref15_Fits.f kj3 l0 bt280.1).bind fun t288 => (sidinglaw15_HunkDiff.j1 kj3 l0 l1 t278 bt280.1 bt284.1 (!t288))) else (sidinglaw15_HunkDiff.j1 kj3 l0 l1 t278 bt280.1 bt284.1 true))) else (sidinglaw15_HunkDiff.j1 kj3 l0 l1 t278 bt280.1 bt284.1 true))) else (sidinglaw15_HunkDiff.j1 kj3 l0 l1 t278 bt280.1 bt284.1 true)) else (sidinglaw15_HunkDiff.j1 kj3 l0 l1 t278 bt280.1 bt284.1 true)))) = some r := by rw [if_neg (show ¬ (false = true) by decide)] at H; exact H
    clear H
    have H := H1
    clear H1
    replace H := Option.bind_eq_some_iff.mp H
    obtain ⟨⟨t280, t281⟩, A110, H⟩ := H
    replace H : ((lcs_Distance.f kj3 l0 l1).bind fun bt284 => (if t281 = 0 then (if bt284.2 = 0 then ((hunk_Check.f kj3 t280).bind fun t286 => (if t286 = 0 then ((sidingref15_Check.f kj3 t280).bind fun t287 => (if t287 = 0 then ((sidingref15_Fits.f kj3 l0 t280).bind fun t288 => (sidinglaw15_HunkDiff.j1 kj3 l0 l1 t278 t280 bt284.1 (!t288))) else (sidinglaw15_HunkDiff.j1 kj3 l0 l1 t278 t280 bt284.1 true))) else (sidinglaw15_HunkDiff.j1 kj3 l0 l1 t278 t280 bt284.1 true))) else (sidinglaw15_HunkDiff.j1 kj3 l0 l1 t278 t280 bt284.1 true)) else (sidinglaw15_HunkDiff.j1 kj3 l0 l1 t278 t280 bt284.1 true))) = some r := H
    have A11 := Aside0.mk A110
    clear A110
    replace H := Option.bind_eq_some_iff.mp H
    obtain ⟨⟨t284, t285⟩, A120, H⟩ := H
    replace H : (if t281 = 0 then (if t285 = 0 then ((hunk_Check.f kj3 t280).bind fun t286 => (if t286 = 0 then ((sidingref15_Check.f kj3 t280).bind fun t287 => (if t287 = 0 then ((sidingref15_Fits.f kj3 l0 t280).bind fun t288 => (sidinglaw15_HunkDiff.j1 kj3 l0 l1 t278 t280 t284 (!t288))) else (sidinglaw15_HunkDiff.j1 kj3 l0 l1 t278 t280 t284 true))) else (sidinglaw15_HunkDiff.j1 kj3 l0 l1 t278 t280 t284 true))) else (sidinglaw15_HunkDiff.j1 kj3 l0 l1 t278 t280 t284 true)) else (sidinglaw15_HunkDiff.j1 kj3 l0 l1 t278 t280 t284 true)) = some r := H
    have A12 := Aside0.mk A120
    clear A120
    have HC13 := Aside0.mk H
    clear H
    go_upto_region 6 with (first | (go_at_call 7; (with_reducible refine (hunk_Diff.calls kj3 _ _ l0 _ _ l1 t280 t281 _ ?side1 ?side2 ?side3 ?side4 A11.out).mono ?_); (case side1 => repeat (first | exact (Kd.C_below HR0.out HB.out) | (with_reducible refine Kd.C_alloc ?_ _) | (with_reducible refine Kd.C_drewN ?_ _) | (with_reducible refine Kd.C_drew ?_))); (case side2 => exact HC0.out); (case side3 => repeat (first | exact (Kd.C_below HR1.out HB.out) | (with_reducible refine Kd.C_alloc ?_ _) | (with_reducible refine Kd.C_drewN ?_ _) | (with_reducible refine Kd.C_drew ?_))); (case side4 => exact HC1.out); rintro e w14 ⟨v282, rfl, ho0, hb⟩; have n0_ := Aside0.mk (Kd.S_lower ho0 (below_size (by repeat (first | (with_reducible first | exact HB.out | apply below_alloc | apply pw_below_drewN | apply below_drew1) | exact HB.out)))); have n1_ := Aside0.mk (below_step (by repeat (first | (with_reducible first | exact HB.out | apply below_alloc | apply pw_below_drewN | apply below_drew1) | exact HB.out)) hb); clear HB; have HO283 := n0_; have HB := n1_; clear n0_ n1_; (try clear hb); (try clear hb2); (try clear hk); (try clear hi); (try clear ho0)) | (go_at_call 15; (with_reducible refine (lcs_Distance.calls kj3 _ _ l0 _ _ l1 t284 t285 _ ?side1 ?side2 ?side3 ?side4 A12.out).mono ?_); (case side1 => repeat (first | exact (Kd.C_below HR0.out HB.out) | (with_reducible refine Kd.C_alloc ?_ _) | (with_reducible refine Kd.C_drewN ?_ _) | (with_reducible refine Kd.C_drew ?_))); (case side2 => exact HC0.out); (case side3 => repeat (first | exact (Kd.C_below HR1.out HB.out) | (with_reducible refine Kd.C_alloc ?_ _) | (with_reducible refine Kd.C_drewN ?_ _) | (with_reducible refine Kd.C_drew ?_))); (case side4 => exact HC1.out); rintro e w15 ⟨rfl, hb⟩; have n0_ := Aside0.mk (Kd.S_below (by (with_reducible repeat (first | apply Kd.S_alloc | apply Kd.S_drewN | apply Kd.S_drew)); exact HO283.out) hb); have n1_ := Aside0.mk (below_step (by repeat (first | (with_reducible first | exact HB.out | apply below_alloc | apply pw_below_drewN | apply below_drew1) | exact HB.out)) hb); clear HO283; clear HB; have HO283 := n0_; have HB := n1_; clear n0_ n1_; (try clear hb); (try clear hb2); (try clear hk); (try clear hi)))
    repeat (go_quiet (first | (go_at_call 7; (with_reducible refine (hunk_Diff.calls kj3 _ _ l0 _ _ l1 t280 t281 _ ?side1 ?side2 ?side3 ?side4 A11.out).mono ?_); (case side1 => repeat (first | exact (Kd.C_below HR0.out HB.out) | (with_reducible refine Kd.C_alloc ?_ _) | (with_reducible refine Kd.C_drewN ?_ _) | (with_reducible refine Kd.C_drew ?_))); (case side2 => exact HC0.out); (case side3 => repeat (first | exact (Kd.C_below HR1.out HB.out) | (with_reducible refine Kd.C_alloc ?_ _) | (with_reducible refine Kd.C_drewN ?_ _) | (with_reducible refine Kd.C_drew ?_))); (case side4 => exact HC1.out); rintro e w14 ⟨v282, rfl, ho0, hb⟩; have n0_ := Aside0.mk (Kd.S_lower ho0 (below_size (by repeat (first | (with_reducible first | exact HB.out | apply below_alloc | apply pw_below_drewN | apply below_drew1) | exact HB.out)))); have n1_ := Aside0.mk (below_step (by repeat (first | (with_reducible first | exact HB.out | apply below_alloc | apply pw_below_drewN | apply below_drew1) | exact HB.out)) hb); clear HB; have HO283 := n0_; have HB := n1_; clear n0_ n1_; (try clear hb); (try clear hb2); (try clear hk); (try clear hi); (try clear ho0)) | (go_at_call 15; (with_reducible refine (lcs_Distance.calls kj3 _ _ l0 _ _ l1 t284 t285 _ ?side1 ?side2 ?side3 ?side4 A12.out).mono ?_); (case side1 => repeat (first | exact (Kd.C_below HR0.out HB.out) | (with_reducible refine Kd.C_alloc ?_ _) | (with_reducible refine Kd.C_drewN ?_ _) | (with_reducible refine Kd.C_drew ?_))); (case side2 => exact HC0.out); (case side3 => repeat (first | exact (Kd.C_below HR1.out HB.out) | (with_reducible refine Kd.C_alloc ?_ _) | (with_reducible refine Kd.C_drewN ?_ _) | (with_reducible refine Kd.C_drew ?_))); (case side4 => exact HC1.out); rintro e w15 ⟨rfl, hb⟩; have n0_ := Aside0.mk (Kd.S_below (by (with_reducible repeat (first | apply Kd.S_alloc | apply Kd.S_drewN | apply Kd.S_drew)); exact HO283.out) hb); have n1_ := Aside0.mk (below_step (by repeat (first | (with_reducible first | exact HB.out | apply below_alloc | apply pw_below_drewN | apply below_drew1) | exact HB.out)) hb); clear HO283; clear HB; have HO283 := n0_; have HB := n1_; clear n0_ n1_; (try clear hb); (try clear hb2); (try clear hk); (try clear hi))); go_upto_region 6 with (first | (go_at_call 7; (with_reducible refine (hunk_Diff.calls kj3 _ _ l0 _ _ l1 t280 t281 _ ?side1 ?side2 ?side3 ?side4 A11.out).mono ?_); (case side1 => repeat (first | exact (Kd.C_below HR0.out HB.out) | (with_reducible refine Kd.C_alloc ?_ _) | (with_reducible refine Kd.C_drewN ?_ _) | (with_reducible refine Kd.C_drew ?_))); (case side2 => exact HC0.out); (case side3 => repeat (first | exact (Kd.C_below HR1.out HB.out) | (with_reducible refine Kd.C_alloc ?_ _) | (with_reducible refine Kd.C_drewN ?_ _) | (with_reducible refine Kd.C_drew ?_))); (case side4 => exact HC1.out); rintro e w14 ⟨v282, rfl, ho0, hb⟩; have n0_ := Aside0.mk (Kd.S_lower ho0 (below_size (by repeat (first | (with_reducible first | exact HB.out | apply below_alloc | apply pw_below_drewN | apply below_drew1) | exact HB.out)))); have n1_ := Aside0.mk (below_step (by repeat (first | (with_reducible first | exact HB.out | apply below_alloc | apply pw_below_drewN | apply below_drew1) | exact HB.out)) hb); clear HB; have HO283 := n0_; have HB := n1_; clear n0_ n1_; (try clear hb); (try clear hb2); (try clear hk); (try clear hi); (try clear ho0)) | (go_at_call 15; (with_reducible refine (lcs_Distance.calls kj3 _ _ l0 _ _ l1 t284 t285 _ ?side1 ?side2 ?side3 ?side4 A12.out).mono ?_); (case side1 => repeat (first | exact (Kd.C_below HR0.out HB.out) | (with_reducible refine Kd.C_alloc ?_ _) | (with_reducible refine Kd.C_drewN ?_ _) | (with_reducible refine Kd.C_drew ?_))); (case side2 => exact HC0.out); (case side3 => repeat (first | exact (Kd.C_below HR1.out HB.out) | (with_reducible refine Kd.C_alloc ?_ _) | (with_reducible refine Kd.C_drewN ?_ _) | (with_reducible refine Kd.C_drew ?_))); (case side4 => exact HC1.out); rintro e w15 ⟨rfl, hb⟩; have n0_ := Aside0.mk (Kd.S_below (by (with_reducible repeat (first | apply Kd.S_alloc | apply Kd.S_drewN | apply Kd.S_drew)); exact HO283.out) hb); have n1_ := Aside0.mk (below_step (by repeat (first | (with_reducible first | exact HB.out | apply below_alloc | apply pw_below_drewN | apply below_drew1) | exact HB.out)) hb); clear HO283; clear HB; have HO283 := n0_; have HB := n1_; clear n0_ n1_; (try clear hb); (try clear hb2); (try clear hk); (try clear hi))))
    (try simp only [Act.put, List.setIfInBounds_toArray, List.set_cons_zero, List.set_cons_succ])
    go_cut [55] (fun v55 wc => ∃ (kq : Nat) (x55_12 : Bool), v55 = .bool x55_12 ∧ Aside0 (sidinglaw15_HunkDiff.j1 kq l0 l1 t278 t280 t284 x55_12 = some r) ∧ Aside0 (kq ≤ kj3) ∧ Aside0 (Kd.S k36 36 wc w.heap.size (fun _ => True) v282 t280) ∧ Aside0 (Below w.heap.size w wc))
    case first =>
     have H := HC13.out
     clear HC13
     by_cases c16 : t281 = 0
     ·rw [if_pos c16] at H
      have c16b0 : (t281 == 0) = true := beq_iff_eq.mpr c16
      have c16b1 : (t281 != 0) = false := bne_eq_false_iff_eq.mpr c16
      clear c16
      (first | rw [c16b0] | (simp only [i64_w, i32_w]; rw [c16b0]) | skip)
      by_cases c17 : t285 = 0
      ·rw [if_pos c17] at H
       have c17b0 : (t285 == 0) = true := beq_iff_eq.mpr c17
       have c17b1 : (t285 != 0) = false := bne_eq_false_iff_eq.mpr c17
       clear c17
       replace H := Option.bind_eq_some_iff.mp H
       obtain ⟨t286, A180, H⟩ := H
       replace H : (if t286 = 0 then ((sidingref15_Check.f kj3 t280).bind fun t287 => (if t287 = 0 then ((sidingref15_Fits.f kj3 l0 t280).bind fun t288 => (sidinglaw15_HunkDiff.j1 kj3 l0 l1 t278 t280 t284 (!t288))) else (sidinglaw15_HunkDiff.j1 kj3 l0 l1 t278 t280 t284 true))) else (sidinglaw15_HunkDiff.j1 kj3 l0 l1 t278 t280 t284 true)) = some r := H
       have A18 := Aside0.mk A180
       clear A180
       by_cases c19 : t286 = 0
       ·rw [if_pos c19] at H
        have c19b0 : (t286 == 0) = true := beq_iff_eq.mpr c19
        have c19b1 : (t286 != 0) = false := bne_eq_false_iff_eq.mpr c19
        clear c19
        replace H := Option.bind_eq_some_iff.mp H
        obtain ⟨t287, A200, H⟩ := H
        replace H : (if t287 = 0 then ((sidingref15_Fits.f kj3 l0 t280).bind fun t288 => (sidinglaw15_HunkDiff.j1 kj3 l0 l1 t278 t280 t284 (!t288))) else (sidinglaw15_HunkDiff.j1 kj3 l0 l1 t278 t280 t284 true)) = some r := H
        have A20 := Aside0.mk A200
        clear A200
        by_cases c21 : t287 = 0
        ·rw [if_pos c21] at H
         have c21b0 : (t287 == 0) = true := beq_iff_eq.mpr c21
         have c21b1 : (t287 != 0) = false := bne_eq_false_iff_eq.mpr c21
         clear c21
         replace H := Option.bind_eq_some_iff.mp H
         obtain ⟨t288, A220, H⟩ := H
         replace H : (sidinglaw15_HunkDiff.j1 kj3 l0 l1 t278 t280 t284 (!t288)) = some r := H
         have A22 := Aside0.mk A220
         clear A220
         have H' := Aside0.mk H
         clear H
         obtain ⟨Ao23, co23, eo23⟩ := Kd.S_slice HO283.out
         subst eo23
         go_wp2_with (first | (go_at_call 16; (with_reducible refine (hunk_Check.calls kj3 _ _ t280 t286 _ ?side1 ?side2 A18.out).mono ?_); (case side1 => repeat (first | exact (Kd.S_reads' HO283.out).2.2 | (with_reducible refine Kd.C_alloc ?_ _) | (with_reducible refine Kd.C_drewN ?_ _) | (with_reducible refine Kd.C_drew ?_))); (case side2 => exact (Kd.S_reads' HO283.out).2.1); rintro e w24 ⟨rfl, hb⟩; have n0_ := Aside0.mk (Kd.S_below (by (with_reducible repeat (first | apply Kd.S_alloc | apply Kd.S_drewN | apply Kd.S_drew)); exact HO283.out) hb); have n1_ := Aside0.mk (below_step (by repeat (first | (with_reducible first | exact HB.out | apply below_alloc | apply pw_below_drewN | apply below_drew1) | exact HB.out)) hb); clear HO283; clear HB; have HO283 := n0_; have HB := n1_; clear n0_ n1_; (try clear hb); (try clear hb2); (try clear hk); (try clear hi)) | (go_at_call 10; (with_reducible refine (sidingref15_Check.calls kj3 _ _ t280 t287 _ ?side1 ?side2 A20.out).mono ?_); (case side1 => repeat (first | exact (Kd.S_reads' HO283.out).2.2 | (with_reducible refine Kd.C_alloc ?_ _) | (with_reducible refine Kd.C_drewN ?_ _) | (with_reducible refine Kd.C_drew ?_))); (case side2 => exact (Kd.S_reads' HO283.out).2.1); rintro e w25 ⟨rfl, hb⟩; have n0_ := Aside0.mk (Kd.S_below (by (with_reducible repeat (first | apply Kd.S_alloc | apply Kd.S_drewN | apply Kd.S_drew)); exact HO283.out) hb); have n1_ := Aside0.mk (below_step (by repeat (first | (with_reducible first | exact HB.out | apply below_alloc | apply pw_below_drewN | apply below_drew1) | exact HB.out)) hb); clear HO283; clear HB; have HO283 := n0_; have HB := n1_; clear n0_ n1_; (try clear hb); (try clear hb2); (try clear hk); (try clear hi)) | (go_at_call 11; (with_reducible refine (sidingref15_Fits.calls kj3 _ _ l0 _ _ t280 t288 _ ?side1 ?side2 ?side3 ?side4 A22.out).mono ?_); (case side1 => repeat (first | exact (Kd.C_below HR0.out HB.out) | (with_reducible refine Kd.C_alloc ?_ _) | (with_reducible refine Kd.C_drewN ?_ _) | (with_reducible refine Kd.C_drew ?_))); (case side2 => exact HC0.out); (case side3 => repeat (first | exact (Kd.S_reads' HO283.out).2.2 | (with_reducible refine Kd.C_alloc ?_ _) | (with_reducible refine Kd.C_drewN ?_ _) | (with_reducible refine Kd.C_drew ?_))); (case side4 => exact (Kd.S_reads' HO283.out).2.1); rintro e w26 ⟨rfl, hb⟩; have n0_ := Aside0.mk (Kd.S_below (by (with_reducible repeat (first | apply Kd.S_alloc | apply Kd.S_drewN | apply Kd.S_drew)); exact HO283.out) hb); have n1_ := Aside0.mk (below_step (by repeat (first | (with_reducible first | exact HB.out | apply below_alloc | apply pw_below_drewN | apply below_drew1) | exact HB.out)) hb); clear HO283; clear HB; have HO283 := n0_; have HB := n1_; clear n0_ n1_; (try clear hb); (try clear hb2); (try clear hk); (try clear hi)))
         repeat (go_quiet (first | (go_at_call 16; (with_reducible refine (hunk_Check.calls kj3 _ _ t280 t286 _ ?side1 ?side2 A18.out).mono ?_); (case side1 => repeat (first | exact (Kd.S_reads' HO283.out).2.2 | (with_reducible refine Kd.C_alloc ?_ _) | (with_reducible refine Kd.C_drewN ?_ _) | (with_reducible refine Kd.C_drew ?_))); (case side2 => exact (Kd.S_reads' HO283.out).2.1); rintro e w24 ⟨rfl, hb⟩; have n0_ := Aside0.mk (Kd.S_below (by (with_reducible repeat (first | apply Kd.S_alloc | apply Kd.S_drewN | apply Kd.S_drew)); exact HO283.out) hb); have n1_ := Aside0.mk (below_step (by repeat (first | (with_reducible first | exact HB.out | apply below_alloc | apply pw_below_drewN | apply below_drew1) | exact HB.out)) hb); clear HO283; clear HB; have HO283 := n0_; have HB := n1_; clear n0_ n1_; (try clear hb); (try clear hb2); (try clear hk); (try clear hi)) | (go_at_call 10; (with_reducible refine (sidingref15_Check.calls kj3 _ _ t280 t287 _ ?side1 ?side2 A20.out).mono ?_); (case side1 => repeat (first | exact (Kd.S_reads' HO283.out).2.2 | (with_reducible refine Kd.C_alloc ?_ _) | (with_reducible refine Kd.C_drewN ?_ _) | (with_reducible refine Kd.C_drew ?_))); (case side2 => exact (Kd.S_reads' HO283.out).2.1); rintro e w25 ⟨rfl, hb⟩; have n0_ := Aside0.mk (Kd.S_below (by (with_reducible repeat (first | apply Kd.S_alloc | apply Kd.S_drewN | apply Kd.S_drew)); exact HO283.out) hb); have n1_ := Aside0.mk (below_step (by repeat (first | (with_reducible first | exact HB.out | apply below_alloc | apply pw_below_drewN | apply below_drew1) | exact HB.out)) hb); clear HO283; clear HB; have HO283 := n0_; have HB := n1_; clear n0_ n1_; (try clear hb); (try clear hb2); (try clear hk); (try clear hi)) | (go_at_call 11; (with_reducible refine (sidingref15_Fits.calls kj3 _ _ l0 _ _ t280 t288 _ ?side1 ?side2 ?side3 ?side4 A22.out).mono ?_); (case side1 => repeat (first | exact (Kd.C_below HR0.out HB.out) | (with_reducible refine Kd.C_alloc ?_ _) | (with_reducible refine Kd.C_drewN ?_ _) | (with_reducible refine Kd.C_drew ?_))); (case side2 => exact HC0.out); (case side3 => repeat (first | exact (Kd.S_reads' HO283.out).2.2 | (with_reducible refine Kd.C_alloc ?_ _) | (with_reducible refine Kd.C_drewN ?_ _) | (with_reducible refine Kd.C_drew ?_))); (case side4 => exact (Kd.S_reads' HO283.out).2.1); rintro e w26 ⟨rfl, hb⟩; have n0_ := Aside0.mk (Kd.S_below (by (with_reducible repeat (first | apply Kd.S_alloc | apply Kd.S_drewN | apply Kd.S_drew)); exact HO283.out) hb); have n1_ := Aside0.mk (below_step (by repeat (first | (with_reducible first | exact HB.out | apply below_alloc | apply pw_below_drewN | apply below_drew1) | exact HB.out)) hb); clear HO283; clear HB; have HO283 := n0_; have HB := n1_; clear n0_ n1_; (try clear hb); (try clear hb2); (try clear hk); (try clear hi))); try go_wp2_with (first | (go_at_call 16; (with_reducible refine (hunk_Check.calls kj3 _ _ t280 t286 _ ?side1 ?side2 A18.out).mono ?_); (case side1 => repeat (first | exact (Kd.S_reads' HO283.out).2.2 | (with_reducible refine Kd.C_alloc ?_ _) | (with_reducible refine Kd.C_drewN ?_ _) | (with_reducible refine Kd.C_drew ?_))); (case side2 => exact (Kd.S_reads' HO283.out).2.1); rintro e w24 ⟨rfl, hb⟩; have n0_ := Aside0.mk (Kd.S_below (by (with_reducible repeat (first | apply Kd.S_alloc | apply Kd.S_drewN | apply Kd.S_drew)); exact HO283.out) hb); have n1_ := Aside0.mk (below_step (by repeat (first | (with_reducible first | exact HB.out | apply below_alloc | apply pw_below_drewN | apply below_drew1) | exact HB.out)) hb); clear HO283; clear HB; have HO283 := n0_; have HB := n1_; clear n0_ n1_; (try clear hb); (try clear hb2); (try clear hk); (try clear hi)) | (go_at_call 10; (with_reducible refine (sidingref15_Check.calls kj3 _ _ t280 t287 _ ?side1 ?side2 A20.out).mono ?_); (case side1 => repeat (first | exact (Kd.S_reads' HO283.out).2.2 | (with_reducible refine Kd.C_alloc ?_ _) | (with_reducible refine Kd.C_drewN ?_ _) | (with_reducible refine Kd.C_drew ?_))); (case side2 => exact (Kd.S_reads' HO283.out).2.1); rintro e w25 ⟨rfl, hb⟩; have n0_ := Aside0.mk (Kd.S_below (by (with_reducible repeat (first | apply Kd.S_alloc | apply Kd.S_drewN | apply Kd.S_drew)); exact HO283.out) hb); have n1_ := Aside0.mk (below_step (by repeat (first | (with_reducible first | exact HB.out | apply below_alloc | apply pw_below_drewN | apply below_drew1) | exact HB.out)) hb); clear HO283; clear HB; have HO283 := n0_; have HB := n1_; clear n0_ n1_; (try clear hb); (try clear hb2); (try clear hk); (try clear hi)) | (go_at_call 11; (with_reducible refine (sidingref15_Fits.calls kj3 _ _ l0 _ _ t280 t288 _ ?side1 ?side2 ?side3 ?side4 A22.out).mono ?_); (case side1 => repeat (first | exact (Kd.C_below HR0.out HB.out) | (with_reducible refine Kd.C_alloc ?_ _) | (with_reducible refine Kd.C_drewN ?_ _) | (with_reducible refine Kd.C_drew ?_))); (case side2 => exact HC0.out); (case side3 => repeat (first | exact (Kd.S_reads' HO283.out).2.2 | (with_reducible refine Kd.C_alloc ?_ _) | (with_reducible refine Kd.C_drewN ?_ _) | (with_reducible refine Kd.C_drew ?_))); (case side4 => exact (Kd.S_reads' HO283.out).2.1); rintro e w26 ⟨rfl, hb⟩; have n0_ := Aside0.mk (Kd.S_below (by (with_reducible repeat (first | apply Kd.S_alloc | apply Kd.S_drewN | apply Kd.S_drew)); exact HO283.out) hb); have n1_ := Aside0.mk (below_step (by repeat (first | (with_reducible first | exact HB.out | apply below_alloc | apply pw_below_drewN | apply below_drew1) | exact HB.out)) hb); clear HO283; clear HB; have HO283 := n0_; have HB := n1_; clear n0_ n1_; (try clear hb); (try clear hb2); (try clear hk); (try clear hi))))
         go_meet
         case rel => exact ⟨_, (!t288), (by first | rfl | (simp; done) | (simp [*]; done)), H', ⟨by have := HJ3.out; first | omega | exact Nat.le_refl _⟩, ⟨by (with_reducible repeat (first | apply Kd.S_alloc | apply Kd.S_drewN | apply Kd.S_drew)); exact HO283.out⟩, ⟨by repeat (first | (with_reducible first | exact HB.out | apply below_alloc | apply pw_below_drewN | apply below_drew1) | exact HB.out)⟩⟩
        ·rw [if_neg c21] at H
         have c21b0 : (t287 == 0) = false := beq_eq_false_iff_ne.mpr c21
         have c21b1 : (t287 != 0) = true := bne_iff_ne.mpr c21
         have H' := Aside0.mk H
         clear H
         obtain ⟨Ao27, co27, eo27⟩ := Kd.S_slice HO283.out
         subst eo27
         go_wp2_with (first | (go_at_call 16; (with_reducible refine (hunk_Check.calls kj3 _ _ t280 t286 _ ?side1 ?side2 A18.out).mono ?_); (case side1 => repeat (first | exact (Kd.S_reads' HO283.out).2.2 | (with_reducible refine Kd.C_alloc ?_ _) | (with_reducible refine Kd.C_drewN ?_ _) | (with_reducible refine Kd.C_drew ?_))); (case side2 => exact (Kd.S_reads' HO283.out).2.1); rintro e w28 ⟨rfl, hb⟩; have n0_ := Aside0.mk (Kd.S_below (by (with_reducible repeat (first | apply Kd.S_alloc | apply Kd.S_drewN | apply Kd.S_drew)); exact HO283.out) hb); have n1_ := Aside0.mk (below_step (by repeat (first | (with_reducible first | exact HB.out | apply below_alloc | apply pw_below_drewN | apply below_drew1) | exact HB.out)) hb); clear HO283; clear HB; have HO283 := n0_; have HB := n1_; clear n0_ n1_; (try clear hb); (try clear hb2); (try clear hk); (try clear hi)) | (go_at_call 10; (with_reducible refine (sidingref15_Check.calls kj3 _ _ t280 t287 _ ?side1 ?side2 A20.out).mono ?_); (case side1 => repeat (first | exact (Kd.S_reads' HO283.out).2.2 | (with_reducible refine Kd.C_alloc ?_ _) | (with_reducible refine Kd.C_drewN ?_ _) | (with_reducible refine Kd.C_drew ?_))); (case side2 => exact (Kd.S_reads' HO283.out).2.1); rintro e w29 ⟨rfl, hb⟩; have n0_ := Aside0.mk (Kd.S_below (by (with_reducible repeat (first | apply Kd.S_alloc | apply Kd.S_drewN | apply Kd.S_drew)); exact HO283.out) hb); have n1_ := Aside0.mk (below_step (by repeat (first | (with_reducible first | exact HB.out | apply below_alloc | apply pw_below_drewN | apply below_drew1) | exact HB.out)) hb); clear HO283; clear HB; have HO283 := n0_; have HB := n1_; clear n0_ n1_; (try clear hb); (try clear hb2); (try clear hk); (try clear hi)))
         repeat (go_quiet (first | (go_at_call 16; (with_reducible refine (hunk_Check.calls kj3 _ _ t280 t286 _ ?side1 ?side2 A18.out).mono ?_); (case side1 => repeat (first | exact (Kd.S_reads' HO283.out).2.2 | (with_reducible refine Kd.C_alloc ?_ _) | (with_reducible refine Kd.C_drewN ?_ _) | (with_reducible refine Kd.C_drew ?_))); (case side2 => exact (Kd.S_reads' HO283.out).2.1); rintro e w28 ⟨rfl, hb⟩; have n0_ := Aside0.mk (Kd.S_below (by (with_reducible repeat (first | apply Kd.S_alloc | apply Kd.S_drewN | apply Kd.S_drew)); exact HO283.out) hb); have n1_ := Aside0.mk (below_step (by repeat (first | (with_reducible first | exact HB.out | apply below_alloc | apply pw_below_drewN | apply below_drew1) | exact HB.out)) hb); clear HO283; clear HB; have HO283 := n0_; have HB := n1_; clear n0_ n1_; (try clear hb); (try clear hb2); (try clear hk); (try clear hi)) | (go_at_call 10; (with_reducible refine (sidingref15_Check.calls kj3 _ _ t280 t287 _ ?side1 ?side2 A20.out).mono ?_); (case side1 => repeat (first | exact (Kd.S_reads' HO283.out).2.2 | (with_reducible refine Kd.C_alloc ?_ _) | (with_reducible refine Kd.C_drewN ?_ _) | (with_reducible refine Kd.C_drew ?_))); (case side2 => exact (Kd.S_reads' HO283.out).2.1); rintro e w29 ⟨rfl, hb⟩; have n0_ := Aside0.mk (Kd.S_below (by (with_reducible repeat (first | apply Kd.S_alloc | apply Kd.S_drewN | apply Kd.S_drew)); exact HO283.out) hb); have n1_ := Aside0.mk (below_step (by repeat (first | (with_reducible first | exact HB.out | apply below_alloc | apply pw_below_drewN | apply below_drew1) | exact HB.out)) hb); clear HO283; clear HB; have HO283 := n0_; have HB := n1_; clear n0_ n1_; (try clear hb); (try clear hb2); (try clear hk); (try clear hi))); try go_wp2_with (first | (go_at_call 16; (with_reducible refine (hunk_Check.calls kj3 _ _ t280 t286 _ ?side1 ?side2 A18.out).mono ?_); (case side1 => repeat (first | exact (Kd.S_reads' HO283.out).2.2 | (with_reducible refine Kd.C_alloc ?_ _) | (with_reducible refine Kd.C_drewN ?_ _) | (with_reducible refine Kd.C_drew ?_))); (case side2 => exact (Kd.S_reads' HO283.out).2.1); rintro e w28 ⟨rfl, hb⟩; have n0_ := Aside0.mk (Kd.S_below (by (with_reducible repeat (first | apply Kd.S_alloc | apply Kd.S_drewN | apply Kd.S_drew)); exact HO283.out) hb); have n1_ := Aside0.mk (below_step (by repeat (first | (with_reducible first | exact HB.out | apply below_alloc | apply pw_below_drewN | apply below_drew1) | exact HB.out)) hb); clear HO283; clear HB; have HO283 := n0_; have HB := n1_; clear n0_ n1_; (try clear hb); (try clear hb2); (try clear hk); (try clear hi)) | (go_at_call 10; (with_reducible refine (sidingref15_Check.calls kj3 _ _ t280 t287 _ ?side1 ?side2 A20.out).mono ?_); (case side1 => repeat (first | exact (Kd.S_reads' HO283.out).2.2 | (with_reducible refine Kd.C_alloc ?_ _) | (with_reducible refine Kd.C_drewN ?_ _) | (with_reducible refine Kd.C_drew ?_))); (case side2 => exact (Kd.S_reads' HO283.out).2.1); rintro e w29 ⟨rfl, hb⟩; have n0_ := Aside0.mk (Kd.S_below (by (with_reducible repeat (first | apply Kd.S_alloc | apply Kd.S_drewN | apply Kd.S_drew)); exact HO283.out) hb); have n1_ := Aside0.mk (below_step (by repeat (first | (with_reducible first | exact HB.out | apply below_alloc | apply pw_below_drewN | apply below_drew1) | exact HB.out)) hb); clear HO283; clear HB; have HO283 := n0_; have HB := n1_; clear n0_ n1_; (try clear hb); (try clear hb2); (try clear hk); (try clear hi))))
         go_meet
         case rel => exact ⟨_, (true), (by first | rfl | (simp; done) | (simp [*]; done)), H', ⟨by have := HJ3.out; first | omega | exact Nat.le_refl _⟩, ⟨by (with_reducible repeat (first | apply Kd.S_alloc | apply Kd.S_drewN | apply Kd.S_drew)); exact HO283.out⟩, ⟨by repeat (first | (with_reducible first | exact HB.out | apply below_alloc | apply pw_below_drewN | apply below_drew1) | exact HB.out)⟩⟩
       ·rw [if_neg c19] at H
        have c19b0 : (t286 == 0) = false := beq_eq_false_iff_ne.mpr c19
        have c19b1 : (t286 != 0) = true := bne_iff_ne.mpr c19
        have H' := Aside0.mk H
        clear H
        obtain ⟨Ao30, co30, eo30⟩ := Kd.S_slice HO283.out
        subst eo30
        go_wp2_with (first | (go_at_call 16; (with_reducible refine (hunk_Check.calls kj3 _ _ t280 t286 _ ?side1 ?side2 A18.out).mono ?_); (case side1 => repeat (first | exact (Kd.S_reads' HO283.out).2.2 | (with_reducible refine Kd.C_alloc ?_ _) | (with_reducible refine Kd.C_drewN ?_ _) | (with_reducible refine Kd.C_drew ?_))); (case side2 => exact (Kd.S_reads' HO283.out).2.1); rintro e w31 ⟨rfl, hb⟩; have n0_ := Aside0.mk (Kd.S_below (by (with_reducible repeat (first | apply Kd.S_alloc | apply Kd.S_drewN | apply Kd.S_drew)); exact HO283.out) hb); have n1_ := Aside0.mk (below_step (by repeat (first | (with_reducible first | exact HB.out | apply below_alloc | apply pw_below_drewN | apply below_drew1) | exact HB.out)) hb); clear HO283; clear HB; have HO283 := n0_; have HB := n1_; clear n0_ n1_; (try clear hb); (try clear hb2); (try clear hk); (try clear hi)))
        repeat (go_quiet (first | (go_at_call 16; (with_reducible refine (hunk_Check.calls kj3 _ _ t280 t286 _ ?side1 ?side2 A18.out).mono ?_); (case side1 => repeat (first | exact (Kd.S_reads' HO283.out).2.2 | (with_reducible refine Kd.C_alloc ?_ _) | (with_reducible refine Kd.C_drewN ?_ _) | (with_reducible refine Kd.C_drew ?_))); (case side2 => exact (Kd.S_reads' HO283.out).2.1); rintro e w31 ⟨rfl, hb⟩; have n0_ := Aside0.mk (Kd.S_below (by (with_reducible repeat (first | apply Kd.S_alloc | apply Kd.S_drewN | apply Kd.S_drew)); exact HO283.out) hb); have n1_ := Aside0.mk (below_step (by repeat (first | (with_reducible first | exact HB.out | apply below_alloc | apply pw_below_drewN | apply below_drew1) | exact HB.out)) hb); clear HO283; clear HB; have HO283 := n0_; have HB := n1_; clear n0_ n1_; (try clear hb); (try clear hb2); (try clear hk); (try clear hi))); try go_wp2_with (first | (go_at_call 16; (with_reducible refine (hunk_Check.calls kj3 _ _ t280 t286 _ ?side1 ?side2 A18.out).mono ?_); (case side1 => repeat (first | exact (Kd.S_reads' HO283.out).2.2 | (with_reducible refine Kd.C_alloc ?_ _) | (with_reducible refine Kd.C_drewN ?_ _) | (with_reducible refine Kd.C_drew ?_))); (case side2 => exact (Kd.S_reads' HO283.out).2.1); rintro e w31 ⟨rfl, hb⟩; have n0_ := Aside0.mk (Kd.S_below (by (with_reducible repeat (first | apply Kd.S_alloc | apply Kd.S_drewN | apply Kd.S_drew)); exact HO283.out) hb); have n1_ := Aside0.mk (below_step (by repeat (first | (with_reducible first | exact HB.out | apply below_alloc | apply pw_below_drewN | apply below_drew1) | exact HB.out)) hb); clear HO283; clear HB; have HO283 := n0_; have HB := n1_; clear n0_ n1_; (try clear hb); (try clear hb2); (try clear hk); (try clear hi))))
        go_meet
        case rel => exact ⟨_, (true), (by first | rfl | (simp; done) | (simp [*]; done)), H', ⟨by have := HJ3.out; first | omega | exact Nat.le_refl _⟩, ⟨by (with_reducible repeat (first | apply Kd.S_alloc | apply Kd.S_drewN | apply Kd.S_drew)); exact HO283.out⟩, ⟨by repeat (first | (with_reducible first | exact HB.out | apply below_alloc | apply pw_below_drewN | apply below_drew1) | exact HB.out)⟩⟩
      ·rw [if_neg c17] at H
       have c17b0 : (t285 == 0) = false := beq_eq_false_iff_ne.mpr c17
       have c17b1 : (t285 != 0) = true := bne_iff_ne.mpr c17
       have H' := Aside0.mk H
       clear H
       go_wp2
       repeat (go_quiet (fail); try go_wp2)
       go_meet
       case rel => exact ⟨_, (true), (by first | rfl | (simp; done) | (simp [*]; done)), H', ⟨by have := HJ3.out; first | omega | exact Nat.le_refl _⟩, ⟨by (with_reducible repeat (first | apply Kd.S_alloc | apply Kd.S_drewN | apply Kd.S_drew)); exact HO283.out⟩, ⟨by repeat (first | (with_reducible first | exact HB.out | apply below_alloc | apply pw_below_drewN | apply below_drew1) | exact HB.out)⟩⟩
     ·rw [if_neg c16] at H
      have c16b0 : (t281 == 0) = false := beq_eq_false_iff_ne.mpr c16
      have c16b1 : (t281 != 0) = true := bne_iff_ne.mpr c16
      (first | rw [c16b0] | (simp only [i64_w, i32_w]; rw [c16b0]) | skip)
      have H' := Aside0.mk H
      clear H
      go_wp2
      repeat (go_quiet (fail); try go_wp2)
      go_meet
      case rel => exact ⟨_, (true), (by first | rfl | (simp; done) | (simp [*]; done)), H', ⟨by have := HJ3.out; first | omega | exact Nat.le_refl _⟩, ⟨by (with_reducible repeat (first | apply Kd.S_alloc | apply Kd.S_drewN | apply Kd.S_drew)); exact HO283.out⟩, ⟨by repeat (first | (with_reducible first | exact HB.out | apply below_alloc | apply pw_below_drewN | apply below_drew1) | exact HB.out)⟩⟩
    case rest =>
     clear HC13
     try clear c1
     try clear c2
     try clear p2
     try clear c4
     try clear c7
     try clear c10
     try clear c16
     try clear c16b0
     try clear c16b1
     try clear c17
     try clear c17b0
     try clear c17b1
     try clear c19
     try clear c19b0
     try clear c19b1
     try clear c21
     try clear c21b0
     try clear c21b1
     try clear p2
     obtain ⟨kq, x55_12, rfl, HA, HJ12, HO_6, HB⟩ := hcut
     cases kq with
     | zero => exact absurd HA.out (by simp [sidinglaw15_HunkDiff.j1])
     | succ kj12 =>
      have H := HA.out
      clear HA
      simp only [sidinglaw15_HunkDiff.j1] at H
      by_cases c32 : x55_12 = true
      ·subst c32
       have H1 : (some false) = some r := by rw [if_pos rfl] at H; exact H
       clear H
       have H := H1
       clear H1
       exact absurd ((Option.some.inj H).trans hr_.out) (by decide)
      ·replace c32 := Bool.eq_false_iff.mpr c32
       subst c32
       have H1 : (sidinglaw15_HunkDiff.l0 kj12 l0 l1 t278 t280 t284 0 0) = some r := by rw [if_neg (show ¬ (false = true) by decide)] at H; exact H
       clear H
       have H := H1
       clear H1
       have H' := Aside0.mk H
       clear H
       go_wp2
       repeat (go_quiet (fail); try go_wp2)
       go_loopg [10, 11] kj12 (fun kq v10 v11 w' => ∃ (x10_3 : Int) (x11_3 : Int), v10 = .int .i64 x10_3 ∧ v11 = .int .i64 x11_3 ∧ Aside0 (sidinglaw15_HunkDiff.l0 kq l0 l1 t278 t280 t284 x10_3 x11_3 = some r) ∧ Aside0 (kq ≤ kj12) ∧ Aside0 (Kd.S k36 36 w' w.heap.size (fun _ => True) v282 t280) ∧ Aside0 (Below w.heap.size w w'))
       case atStart => exact ⟨(0), (0), (by first | rfl | (simp; done) | (simp [*]; done)), (by first | rfl | (simp; done) | (simp [*]; done)), H', ⟨Nat.le_refl _⟩, ⟨by (with_reducible repeat (first | apply Kd.S_alloc | apply Kd.S_drewN | apply Kd.S_drew)); exact HO_6.out⟩, ⟨by repeat (first | (with_reducible first | exact HB.out | apply below_alloc | apply pw_below_drewN | apply below_drew1) | exact HB.out)⟩⟩
       case round =>
        clear H'
        try clear c1
        try clear c2
        try clear p2
        try clear c3
        try clear c4
        try clear c7
        try clear c10
        try clear c16
        try clear c16b0
        try clear c16b1
        try clear c17
        try clear c17b0
        try clear c17b1
        try clear c19
        try clear c19b0
        try clear c19b1
        try clear c21
        try clear c21b0
        try clear c21b1
        try clear c32
        try clear p2
        obtain ⟨x10_3, x11_3, rfl, rfl, HA, HK3, HO_6, HB⟩ := hrel
        cases gk with
        | zero => exact absurd HA.out (by simp [sidinglaw15_HunkDiff.l0])
        | succ k3 =>
         have H := HA.out
         clear HA
         simp only [sidinglaw15_HunkDiff.l0] at H
         by_cases c33 : x11_3 < (t280.length : Int)
         ·rw [if_pos c33] at H
          have c33b0 : decide (x11_3 < (t280.length : Int)) = true := decide_eq_true c33
          clear c33
          by_cases c34 : 0 ≤ x11_3
          ·rw [if_pos c34] at H
           have c34b0 : decide (0 ≤ x11_3) = true := decide_eq_true c34
           clear c34
           have H' := Aside0.mk H
           clear H
           obtain ⟨Ao35, co35, eo35⟩ := Kd.S_slice HO_6.out
           subst eo35
           have p289 : 0 ≤ (x11_3 : Int) := of_decide_eq_true (by first | (with_reducible assumption) | assumption)
           have q289 : x11_3 < (t280.length : Int) := of_decide_eq_true (by first | (with_reducible assumption) | assumption)
           obtain ⟨ad289, A289_1, c289_1, A289_2, c289_2, e289, hx289_0, hx289_1, hx289_2, hl289_1, hi289_1, hl289_2, hi289_2⟩ := at_T36 (Kd.S_reads' HO_6.out).2.2 x11_3 p289 q289
           cases e289
           obtain ⟨ce289, hce289, hMe289, hcc289⟩ := Kd.S_get HO_6.out z36 x11_3 p289 (by first | exact q289 | exact of_decide_eq_true (by first | (with_reducible assumption) | assumption) | (have e_ := (Kd.S_reads' HO_6.out).1; omega))
           obtain ⟨ve289_1, ve289_2, rfl, ge289_1, ge289_2⟩ := k36_openM hMe289
           have hv289_1 := hcc289 1 _ rfl
           rw [add_field _ _ 1 (by omega)] at hv289_1
           replace hv289_1 := Option.some.inj (hv289_1.symm.trans hx289_1)
           rw [hv289_1] at ge289_1
           have HL289_1 := Aside0.mk (show Kd.R Kd.string 9 _ _ _ _ ((rd_T36 t280 x11_3).f1) from ge289_1)
           clear hv289_1 ge289_1
           have hv289_2 := hcc289 2 _ rfl
           rw [add_field _ _ 2 (by omega)] at hv289_2
           replace hv289_2 := Option.some.inj (hv289_2.symm.trans hx289_2)
           rw [hv289_2] at ge289_2
           have HL289_2 := Aside0.mk (show Kd.R Kd.string 9 _ _ _ _ ((rd_T36 t280 x11_3).f2) from ge289_2)
           clear hv289_2 ge289_2
           clear hcc289 hce289
           have HR289_1 := Aside0.mk hi289_1
           have HC289_1 := Aside0.mk hl289_1
           clear hi289_1 hl289_1
           have HR289_2 := Aside0.mk hi289_2
           have HC289_2 := Aside0.mk hl289_2
           clear hi289_2 hl289_2
           replace p289 := eq_true p289
           replace q289 := eq_true q289
           have p290 : 0 ≤ (x11_3 : Int) := of_decide_eq_true (by first | (with_reducible assumption) | assumption)
           have q290 : x11_3 < (t280.length : Int) := of_decide_eq_true (by first | (with_reducible assumption) | assumption)
           obtain ⟨ad290, A290_1, c290_1, A290_2, c290_2, e290, hx290_0, hx290_1, hx290_2, hl290_1, hi290_1, hl290_2, hi290_2⟩ := at_T36 (Kd.S_reads' HO_6.out).2.2 x11_3 p290 q290
           obtain rfl : ad289 = ad290 := (by injection e290)
           obtain ⟨ce290, hce290, hMe290, hcc290⟩ := Kd.S_get HO_6.out z36 x11_3 p290 (by first | exact q290 | exact of_decide_eq_true (by first | (with_reducible assumption) | assumption) | (have e_ := (Kd.S_reads' HO_6.out).1; omega))
           obtain ⟨ve290_1, ve290_2, rfl, ge290_1, ge290_2⟩ := k36_openM hMe290
           have hv290_1 := hcc290 1 _ rfl
           rw [add_field _ _ 1 (by omega)] at hv290_1
           replace hv290_1 := Option.some.inj (hv290_1.symm.trans hx290_1)
           rw [hv290_1] at ge290_1
           have HL290_1 := Aside0.mk (show Kd.R Kd.string 9 _ _ _ _ ((rd_T36 t280 x11_3).f1) from ge290_1)
           clear hv290_1 ge290_1
           have hv290_2 := hcc290 2 _ rfl
           rw [add_field _ _ 2 (by omega)] at hv290_2
           replace hv290_2 := Option.some.inj (hv290_2.symm.trans hx290_2)
           rw [hv290_2] at ge290_2
           have HL290_2 := Aside0.mk (show Kd.R Kd.string 9 _ _ _ _ ((rd_T36 t280 x11_3).f2) from ge290_2)
           clear hv290_2 ge290_2
           clear hcc290 hce290
           have HR290_1 := Aside0.mk hi290_1
           have HC290_1 := Aside0.mk hl290_1
           clear hi290_1 hl290_1
           have HR290_2 := Aside0.mk hi290_2
           have HC290_2 := Aside0.mk hl290_2
           clear hi290_2 hl290_2
           replace p290 := eq_true p290
           replace q290 := eq_true q290
           have ea_ := Option.some.inj (hx289_1.symm.trans hx290_1)
           injection ea_ with ea_ en_ ec_
           subst ea_
           subst ec_
           clear en_
           have ea_ := Option.some.inj (hx289_2.symm.trans hx290_2)
           injection ea_ with ea_ en_ ec_
           subst ea_
           subst ec_
           clear en_
           go_wp2
           repeat (go_quiet (fail); try go_wp2)
           go_roundg k3
           case measure => have := HJ3.out; have := HJ12.out; have := HK3.out; omega
           case rel => exact ⟨(wrap64 (x10_3 + (wrap64 ((((rd_T36 t280 x11_3).f1).length : Int) + (((rd_T36 t280 x11_3).f2).length : Int))))), (wrap64 (x11_3 + 1)), (by first | rfl | (simp; done) | (simp [*]; done)), (by first | rfl | (simp; done) | (simp [*]; done)), H', ⟨by have := HJ3.out; have := HJ12.out; have := HK3.out; omega⟩, ⟨by (with_reducible repeat (first | apply Kd.S_alloc | apply Kd.S_drewN | apply Kd.S_drew)); exact HO_6.out⟩, ⟨by repeat (first | (with_reducible first | exact HB.out | apply below_alloc | apply pw_below_drewN | apply below_drew1) | exact HB.out)⟩⟩
          ·rw [if_neg c34] at H
           exact absurd H (by simp)
         ·rw [if_neg c33] at H
          have c33b0 : decide (x11_3 < (t280.length : Int)) = false := decide_eq_false c33
          clear c33
          by_cases c36 : t278 = true
          ·subst c36
           have H1 : ((sidingref15_Applied.f k3 l0 t280).bind fun t291 => ((sidingref13_Same.f k3 t291 l1).bind fun t294 => (if t294 = true then ((sidingref13_Same.f k3 l0 l1).bind fun t295 => (if (((t280.length : Int) == 0) == t295) = true then (some (x10_3 == t284)) else (some false))) else (some false)))) = some r := by rw [if_pos rfl] at H; exact H
           clear H
           have H := H1
           clear H1
           replace H := Option.bind_eq_some_iff.mp H
           obtain ⟨t291, A370, H⟩ := H
           replace H : ((sidingref13_Same.f k3 t291 l1).bind fun t294 => (if t294 = true then ((sidingref13_Same.f k3 l0 l1).bind fun t295 => (if (((t280.length : Int) == 0) == t295) = true then (some (x10_3 == t284)) else (some false))) else (some false))) = some r := H
           have A37 := Aside0.mk A370
           clear A370
           replace H := Option.bind_eq_some_iff.mp H
           obtain ⟨t294, A380, H⟩ := H
           replace H : (if t294 = true then ((sidingref13_Same.f k3 l0 l1).bind fun t295 => (if (((t280.length : Int) == 0) == t295) = true then (some (x10_3 == t284)) else (some false))) else (some false)) = some r := H
           have A38 := Aside0.mk A380
           clear A380
           by_cases c39 : t294 = true
           ·subst c39
            have H1 : ((sidingref13_Same.f k3 l0 l1).bind fun t295 => (if (((t280.length : Int) == 0) == t295) = true then (some (x10_3 == t284)) else (some false))) = some r := by rw [if_pos rfl] at H; exact H
            clear H
            have H := H1
            clear H1
            replace H := Option.bind_eq_some_iff.mp H
            obtain ⟨t295, A400, H⟩ := H
            replace H : (if (((t280.length : Int) == 0) == t295) = true then (some (x10_3 == t284)) else (some false)) = some r := H
            have A40 := Aside0.mk A400
            (try have sameA40 := (Option.some.inj (A38.out.symm.trans A40.out) : t294 = t295))
            clear A400
            by_cases c41 : (((t280.length : Int) == 0) == t295) = true
            ·rw [if_pos c41] at H
             have c41b0 : (((t280.length : Int) == 0) == t295) = true := c41
             (try (have c41b1 : decide (((t280.length : Int) == 0) = t295) = true := by simpa using c41))
             (try (have c41b2 : (((t280.length : Int) == 0) == t295) = true := by simpa using c41))
             clear c41
             obtain rfl := Option.some.inj H
             obtain ⟨Ao42, co42, eo42⟩ := Kd.S_slice HO_6.out
             subst eo42
             go_wp2_with (first | (go_at_call 13; (with_reducible refine (sidingref15_Applied.calls k3 _ _ l0 _ _ t280 t291 _ ?side1 ?side2 ?side3 ?side4 A37.out).mono ?_); (case side1 => repeat (first | exact (Kd.C_below HR0.out HB.out) | (with_reducible refine Kd.C_alloc ?_ _) | (with_reducible refine Kd.C_drewN ?_ _) | (with_reducible refine Kd.C_drew ?_))); (case side2 => exact HC0.out); (case side3 => repeat (first | exact (Kd.S_reads' HO_6.out).2.2 | (with_reducible refine Kd.C_alloc ?_ _) | (with_reducible refine Kd.C_drewN ?_ _) | (with_reducible refine Kd.C_drew ?_))); (case side4 => exact (Kd.S_reads' HO_6.out).2.1); rintro e w43 ⟨v292, rfl, ho0, hb⟩; have n0_ := Aside0.mk (Kd.S_elder' (by (with_reducible repeat (first | apply Kd.S_alloc | apply Kd.S_drewN | apply Kd.S_drew)); exact HO_6.out) (Kd.R_base ho0) hb); have n1_ := Aside0.mk (Kd.R_lower ho0 (below_size (by repeat (first | (with_reducible first | exact HB.out | apply below_alloc | apply pw_below_drewN | apply below_drew1) | exact HB.out)))); have n2_ := Aside0.mk (below_step (by repeat (first | (with_reducible first | exact HB.out | apply below_alloc | apply pw_below_drewN | apply below_drew1) | exact HB.out)) hb); clear HO_6; clear HB; have HO_6 := n0_; have HO293 := n1_; have HB := n2_; clear n0_ n1_ n2_; (try clear hb); (try clear hb2); (try clear hk); (try clear hi); (try clear ho0); obtain ⟨Ao44, co44, eo44⟩ := Kd.R_slice HO293.out; subst eo44) | (go_at_call 12; (with_reducible refine (sidingref13_Same.calls k3 _ _ t291 _ _ l1 true _ ?side1 ?side2 ?side3 ?side4 A38.out).mono ?_); (case side1 => repeat (first | exact (Kd.R_reads' HO293.out).2.2 | (with_reducible refine Kd.C_alloc ?_ _) | (with_reducible refine Kd.C_drewN ?_ _) | (with_reducible refine Kd.C_drew ?_))); (case side2 => exact (Kd.R_reads' HO293.out).2.1); (case side3 => repeat (first | exact (Kd.C_below HR1.out HB.out) | (with_reducible refine Kd.C_alloc ?_ _) | (with_reducible refine Kd.C_drewN ?_ _) | (with_reducible refine Kd.C_drew ?_))); (case side4 => exact HC1.out); rintro e w' ⟨rfl, ⟨nd, rfl⟩⟩; (try first | exact ⟨rfl, _, World.drewN_drewN _ _ _⟩ | exact ⟨rfl, _, Eq.trans (World.drewN_drewN _ _ _) (congrArg (World.drewN _) (Nat.add_assoc _ _ _))⟩)) | (go_at_call 12; (with_reducible refine (sidingref13_Same.calls k3 _ _ l0 _ _ l1 t295 _ ?side1 ?side2 ?side3 ?side4 A40.out).mono ?_); (case side1 => repeat (first | exact (Kd.C_below HR0.out (by repeat (first | (with_reducible first | exact HB.out | apply below_alloc | apply pw_below_drewN | apply below_drew1) | exact HB.out))) | (with_reducible refine Kd.C_alloc ?_ _) | (with_reducible refine Kd.C_drewN ?_ _) | (with_reducible refine Kd.C_drew ?_))); (case side2 => exact HC0.out); (case side3 => repeat (first | exact (Kd.C_below HR1.out (by repeat (first | (with_reducible first | exact HB.out | apply below_alloc | apply pw_below_drewN | apply below_drew1) | exact HB.out))) | (with_reducible refine Kd.C_alloc ?_ _) | (with_reducible refine Kd.C_drewN ?_ _) | (with_reducible refine Kd.C_drew ?_))); (case side4 => exact HC1.out); rintro e w' ⟨rfl, ⟨nd, rfl⟩⟩; (try first | exact ⟨rfl, _, World.drewN_drewN _ _ _⟩ | exact ⟨rfl, _, Eq.trans (World.drewN_drewN _ _ _) (congrArg (World.drewN _) (Nat.add_assoc _ _ _))⟩)))
             repeat (go_quiet (first | (go_at_call 13; (with_reducible refine (sidingref15_Applied.calls k3 _ _ l0 _ _ t280 t291 _ ?side1 ?side2 ?side3 ?side4 A37.out).mono ?_); (case side1 => repeat (first | exact (Kd.C_below HR0.out HB.out) | (with_reducible refine Kd.C_alloc ?_ _) | (with_reducible refine Kd.C_drewN ?_ _) | (with_reducible refine Kd.C_drew ?_))); (case side2 => exact HC0.out); (case side3 => repeat (first | exact (Kd.S_reads' HO_6.out).2.2 | (with_reducible refine Kd.C_alloc ?_ _) | (with_reducible refine Kd.C_drewN ?_ _) | (with_reducible refine Kd.C_drew ?_))); (case side4 => exact (Kd.S_reads' HO_6.out).2.1); rintro e w43 ⟨v292, rfl, ho0, hb⟩; have n0_ := Aside0.mk (Kd.S_elder' (by (with_reducible repeat (first | apply Kd.S_alloc | apply Kd.S_drewN | apply Kd.S_drew)); exact HO_6.out) (Kd.R_base ho0) hb); have n1_ := Aside0.mk (Kd.R_lower ho0 (below_size (by repeat (first | (with_reducible first | exact HB.out | apply below_alloc | apply pw_below_drewN | apply below_drew1) | exact HB.out)))); have n2_ := Aside0.mk (below_step (by repeat (first | (with_reducible first | exact HB.out | apply below_alloc | apply pw_below_drewN | apply below_drew1) | exact HB.out)) hb); clear HO_6; clear HB; have HO_6 := n0_; have HO293 := n1_; have HB := n2_; clear n0_ n1_ n2_; (try clear hb); (try clear hb2); (try clear hk); (try clear hi); (try clear ho0); obtain ⟨Ao44, co44, eo44⟩ := Kd.R_slice HO293.out; subst eo44) | (go_at_call 12; (with_reducible refine (sidingref13_Same.calls k3 _ _ t291 _ _ l1 true _ ?side1 ?side2 ?side3 ?side4 A38.out).mono ?_); (case side1 => repeat (first | exact (Kd.R_reads' HO293.out).2.2 | (with_reducible refine Kd.C_alloc ?_ _) | (with_reducible refine Kd.C_drewN ?_ _) | (with_reducible refine Kd.C_drew ?_))); (case side2 => exact (Kd.R_reads' HO293.out).2.1); (case side3 => repeat (first | exact (Kd.C_below HR1.out HB.out) | (with_reducible refine Kd.C_alloc ?_ _) | (with_reducible refine Kd.C_drewN ?_ _) | (with_reducible refine Kd.C_drew ?_))); (case side4 => exact HC1.out); rintro e w' ⟨rfl, ⟨nd, rfl⟩⟩; (try first | exact ⟨rfl, _, World.drewN_drewN _ _ _⟩ | exact ⟨rfl, _, Eq.trans (World.drewN_drewN _ _ _) (congrArg (World.drewN _) (Nat.add_assoc _ _ _))⟩)) | (go_at_call 12; (with_reducible refine (sidingref13_Same.calls k3 _ _ l0 _ _ l1 t295 _ ?side1 ?side2 ?side3 ?side4 A40.out).mono ?_); (case side1 => repeat (first | exact (Kd.C_below HR0.out (by repeat (first | (with_reducible first | exact HB.out | apply below_alloc | apply pw_below_drewN | apply below_drew1) | exact HB.out))) | (with_reducible refine Kd.C_alloc ?_ _) | (with_reducible refine Kd.C_drewN ?_ _) | (with_reducible refine Kd.C_drew ?_))); (case side2 => exact HC0.out); (case side3 => repeat (first | exact (Kd.C_below HR1.out (by repeat (first | (with_reducible first | exact HB.out | apply below_alloc | apply pw_below_drewN | apply below_drew1) | exact HB.out))) | (with_reducible refine Kd.C_alloc ?_ _) | (with_reducible refine Kd.C_drewN ?_ _) | (with_reducible refine Kd.C_drew ?_))); (case side4 => exact HC1.out); rintro e w' ⟨rfl, ⟨nd, rfl⟩⟩; (try first | exact ⟨rfl, _, World.drewN_drewN _ _ _⟩ | exact ⟨rfl, _, Eq.trans (World.drewN_drewN _ _ _) (congrArg (World.drewN _) (Nat.add_assoc _ _ _))⟩))); try go_wp2_with (first | (go_at_call 13; (with_reducible refine (sidingref15_Applied.calls k3 _ _ l0 _ _ t280 t291 _ ?side1 ?side2 ?side3 ?side4 A37.out).mono ?_); (case side1 => repeat (first | exact (Kd.C_below HR0.out HB.out) | (with_reducible refine Kd.C_alloc ?_ _) | (with_reducible refine Kd.C_drewN ?_ _) | (with_reducible refine Kd.C_drew ?_))); (case side2 => exact HC0.out); (case side3 => repeat (first | exact (Kd.S_reads' HO_6.out).2.2 | (with_reducible refine Kd.C_alloc ?_ _) | (with_reducible refine Kd.C_drewN ?_ _) | (with_reducible refine Kd.C_drew ?_))); (case side4 => exact (Kd.S_reads' HO_6.out).2.1); rintro e w43 ⟨v292, rfl, ho0, hb⟩; have n0_ := Aside0.mk (Kd.S_elder' (by (with_reducible repeat (first | apply Kd.S_alloc | apply Kd.S_drewN | apply Kd.S_drew)); exact HO_6.out) (Kd.R_base ho0) hb); have n1_ := Aside0.mk (Kd.R_lower ho0 (below_size (by repeat (first | (with_reducible first | exact HB.out | apply below_alloc | apply pw_below_drewN | apply below_drew1) | exact HB.out)))); have n2_ := Aside0.mk (below_step (by repeat (first | (with_reducible first | exact HB.out | apply below_alloc | apply pw_below_drewN | apply below_drew1) | exact HB.out)) hb); clear HO_6; clear HB; have HO_6 := n0_; have HO293 := n1_; have HB := n2_; clear n0_ n1_ n2_; (try clear hb); (try clear hb2); (try clear hk); (try clear hi); (try clear ho0); obtain ⟨Ao44, co44, eo44⟩ := Kd.R_slice HO293.out; subst eo44) | (go_at_call 12; (with_reducible refine (sidingref13_Same.calls k3 _ _ t291 _ _ l1 true _ ?side1 ?side2 ?side3 ?side4 A38.out).mono ?_); (case side1 => repeat (first | exact (Kd.R_reads' HO293.out).2.2 | (with_reducible refine Kd.C_alloc ?_ _) | (with_reducible refine Kd.C_drewN ?_ _) | (with_reducible refine Kd.C_drew ?_))); (case side2 => exact (Kd.R_reads' HO293.out).2.1); (case side3 => repeat (first | exact (Kd.C_below HR1.out HB.out) | (with_reducible refine Kd.C_alloc ?_ _) | (with_reducible refine Kd.C_drewN ?_ _) | (with_reducible refine Kd.C_drew ?_))); (case side4 => exact HC1.out); rintro e w' ⟨rfl, ⟨nd, rfl⟩⟩; (try first | exact ⟨rfl, _, World.drewN_drewN _ _ _⟩ | exact ⟨rfl, _, Eq.trans (World.drewN_drewN _ _ _) (congrArg (World.drewN _) (Nat.add_assoc _ _ _))⟩)) | (go_at_call 12; (with_reducible refine (sidingref13_Same.calls k3 _ _ l0 _ _ l1 t295 _ ?side1 ?side2 ?side3 ?side4 A40.out).mono ?_); (case side1 => repeat (first | exact (Kd.C_below HR0.out (by repeat (first | (with_reducible first | exact HB.out | apply below_alloc | apply pw_below_drewN | apply below_drew1) | exact HB.out))) | (with_reducible refine Kd.C_alloc ?_ _) | (with_reducible refine Kd.C_drewN ?_ _) | (with_reducible refine Kd.C_drew ?_))); (case side2 => exact HC0.out); (case side3 => repeat (first | exact (Kd.C_below HR1.out (by repeat (first | (with_reducible first | exact HB.out | apply below_alloc | apply pw_below_drewN | apply below_drew1) | exact HB.out))) | (with_reducible refine Kd.C_alloc ?_ _) | (with_reducible refine Kd.C_drewN ?_ _) | (with_reducible refine Kd.C_drew ?_))); (case side4 => exact HC1.out); rintro e w' ⟨rfl, ⟨nd, rfl⟩⟩; (try first | exact ⟨rfl, _, World.drewN_drewN _ _ _⟩ | exact ⟨rfl, _, Eq.trans (World.drewN_drewN _ _ _) (congrArg (World.drewN _) (Nat.add_assoc _ _ _))⟩))))
             go_ret
             (try rw [sameA40])
             exact ⟨by first | rfl | (simp [errW_none, errW_some] <;> rfl) | (simp [*, errW_none, errW_some] <;> rfl), by repeat (first | (with_reducible first | exact HB.out | apply below_alloc | apply pw_below_drewN | apply below_drew1) | exact HB.out)⟩
            ·rw [if_neg c41] at H
             have c41b0 : (((t280.length : Int) == 0) == t295) = false := by simpa using c41
             (try (have c41b1 : decide (((t280.length : Int) == 0) = t295) = false := by simpa using c41))
             (try (have c41b2 : (((t280.length : Int) == 0) == t295) = false := by simpa using c41))
             (try (have c41b3 : ¬ (((t280.length : Int) == 0) = t295) := by simpa using c41))
             clear c41
             exact absurd ((Option.some.inj H).trans hr_.out) (by decide)
           ·replace c39 := Bool.eq_false_iff.mpr c39
            subst c39
            have H1 : (some false) = some r := by rw [if_neg (show ¬ (false = true) by decide)] at H; exact H
            clear H
            have H := H1
            clear H1
            exact absurd ((Option.some.inj H).trans hr_.out) (by decide)
          ·replace c36 := Bool.eq_false_iff.mpr c36
           subst c36
           have H1 : (some false) = some r := by rw [if_neg (show ¬ (false = true) by decide)] at H; exact H
           clear H
           have H := H1
           clear H1
           exact absurd ((Option.some.inj H).trans hr_.out) (by decide)
def sidinglaw15_HunkDiff.Pure : Prop := ∀ (l0 : List ByteArray) (l1 : List ByteArray), (l0.length * 16 ≤ 140737488351232 ∧ ∀ x0_ ∈ l0, x0_.size ≤ 140737488351232) → (l1.length * 16 ≤ 140737488351232 ∧ ∀ x0_ ∈ l1, x0_.size ≤ 140737488351232) → ∃ k, sidinglaw15_HunkDiff.f k l0 l1 = some true
theorem sidinglaw15_HunkDiff.walk (P : sidinglaw15_HunkDiff.Pure) (A0 : Option Addr) (c0 : Nat) (l0 : List ByteArray) (A1 : Option Addr) (c1 : Nat) (l1 : List ByteArray) (w : World) (hr0 : Kd.C Kd.string w A0 l0.length l0) (hc0 : l0.length ≤ c0) (hr1 : Kd.C Kd.string w A1 l1.length l1) (hc1 : l1.length ≤ c1) (hw0 : l0.length * 16 ≤ 140737488351232 ∧ ∀ x0_ ∈ l0, x0_.size ≤ 140737488351232) (hw1 : l1.length * 16 ≤ 140737488351232 ∧ ∀ x0_ ∈ l1, x0_.size ≤ 140737488351232) :
  Calls Tryd.prog 4 #[.slice A0 l0.length c0, .slice A1 l1.length c1] w fun e w' => e = .returned (.bool true) ∧ Below w.heap.size w w' := by
 obtain ⟨k, h⟩ := P l0 l1 hw0 hw1
 refine (sidinglaw15_HunkDiff.calls k A0 c0 l0 A1 c1 l1 true w hr0 hc0 hr1 hc1 h ⟨rfl⟩).mono ?_
 rintro e w' ⟨rfl, hd⟩
 exact ⟨rfl, hd⟩
end Go.Proofs.YtognfinkolpemaaDoor.Pr
end
section
namespace Go.Proofs.YtognfinkolpemaaDoor.Pr
open Go.RowKit Go.Proofs.YtognfinkolpemaaDoorW.PrintWords Go.Proofs.YtognfinkolpemaaDoorW.PrintLast Go.Proofs.YtognfinkolpemaaDoorW.PrintMore
def tiny (l : List ByteArray) : Prop := ∀ s ∈ l, s.size ≤ 1000000000
theorem tiny.small {l : List ByteArray} (h : tiny l) : small l := fun s hs => by have := h s hs; omega
theorem tiny.take {l : List ByteArray} (h : tiny l) (i : Nat) : tiny (l.take i) := fun s hs => h s (List.mem_of_mem_take hs)
theorem tiny.drop {l : List ByteArray} (h : tiny l) (i : Nat) : tiny (l.drop i) := fun s hs => h s (List.mem_of_mem_drop hs)
theorem tiny.append {l m : List ByteArray} (h : tiny l) (k : tiny m) : tiny (l ++ m) := fun s hs => (List.mem_append.1 hs).elim (h s) (k s)
theorem bytesIn_tiny (l : List ByteArray) (h : tiny l) : bytesIn l ≤ l.length * 1000000000 := by
 induction l with
 | nil => simp [bytesIn]
 | cons s l ih =>
  have h1 := h s (by simp)
  have h2 := ih (fun x hx => h x (by simp [hx]))
  simp only [bytesIn, List.map_cons, List.sum_cons, List.length_cons] at h2 ⊢
  omega
def fed (l : List ByteArray) : List Int := (l.map fun s => 10 :: bytesOf s).flatten
def textOf (l : List ByteArray) : List Int := (fed l).drop 1
theorem fed_length (l : List ByteArray) : (fed l).length = bytesIn l + l.length := by
 induction l with
 | nil => rfl
 | cons s l ih =>
  have e : fed (s :: l) = (10 :: bytesOf s) ++ fed l := by simp [fed]
  rw [e, List.length_append, ih, List.length_cons, bytesOf_length]
  simp only [bytesIn, List.map_cons, List.sum_cons, List.length_cons]
  omega
theorem textOf_length (l : List ByteArray) : (textOf l).length = bytesIn l + l.length - 1 := by
 rw [textOf, List.length_drop, fed_length]
theorem fed_take_succ (l : List ByteArray) (i : Nat) (h : i < l.length) : fed (l.take (i + 1)) = fed (l.take i) ++ 10 :: bytesOf l[i] := by
 unfold fed
 rw [take_succ_at l i h, List.map_append, List.flatten_append]
 simp
theorem textOf_take_succ (l : List ByteArray) (i : Nat) (h : i < l.length) : textOf (l.take (i + 1)) = if i = 0 then bytesOf l[i] else textOf (l.take i) ++ 10 :: bytesOf l[i] := by
 unfold textOf
 rw [fed_take_succ l i h]
 by_cases h0 : i = 0
 ·subst h0
  simp [fed]
 ·rw [if_neg h0]
  have := fed_length (l.take i)
  have h1 : (l.take i).length = i := by rw [List.length_take]; omega
  rw [List.drop_append_of_le_length (by omega)]
end Go.Proofs.YtognfinkolpemaaDoor.Pr
end
section
namespace Go.Proofs.YtognfinkolpemaaDoor.Pr
open Go.RowKit Go.Proofs.YtognfinkolpemaaDoorW.PrintWords Go.Proofs.YtognfinkolpemaaDoorW.PrintLast Go.Proofs.YtognfinkolpemaaDoorW.PrintMore
theorem text_loop (l : List ByteArray) (hs : tiny l) (hl : l.length ≤ 100000) : ∀ (d i : Nat), i + d = l.length → Ev (fun k => sidingref13_Text.l0 k l (textOf (l.take i)) (i : Int)) (textOf l) := by
 intro d
 induction d with
 | zero =>
  intro i hi
  obtain rfl : i = l.length := by omega
  refine Ev.step (fun k => by rw [sidingref13_Text.l0]) (Ev.neg (by omega) ?_)
  rw [List.take_length]
  exact Ev.now _
 | succ d ih =>
  intro i hi
  have hlt : i < l.length := by omega
  have hb := bytesIn_tiny _ (hs.take (i + 1))
  have hb1 := bytesIn_take_succ l i hlt
  have hk : (l.take (i + 1)).length = i + 1 := by rw [List.length_take]; omega
  have hk' : (l.take i).length = i := by rw [List.length_take]; omega
  have ht := textOf_length (l.take i)
  refine Ev.step (fun k => by rw [sidingref13_Text.l0]) (Ev.pos (by omega) ?_)
  have h := ih (i + 1) (by omega)
  rw [textOf_take_succ l i hlt] at h
  rw [rdOf_at _ _ _ hlt, w64 (by omega)]
  by_cases h0 : i = 0
  ·subst h0
   rw [if_pos rfl] at h
   refine Ev.neg (by omega) (Ev.pos (by omega) (Ev.pos (by omega) ?_))
   simpa [textOf, fed] using h
  ·rw [if_neg h0] at h
   refine Ev.pos (by omega) (Ev.pos (by omega) (Ev.bs (Ev.pos (by omega) (Ev.pos ?_ ?_))))
   ·rw [List.length_append, List.length_singleton]
    omega
   ·simpa using h
theorem text_ev (l : List ByteArray) (hs : tiny l) (hl : l.length ≤ 100000) : Ev (fun k => sidingref13_Text.f k l) (textOf l) := by
 unfold sidingref13_Text.f
 have h := text_loop l hs hl l.length 0 (by omega)
 simpa [textOf, fed] using h
theorem feed_ev (l : List ByteArray) (hs : tiny l) : ref13_Feed.f l = some (l.any feedy) := by
 unfold ref13_Feed.f
 rw [if_pos]
 exact List.all_eq_true.2 fun s hm => decide_eq_true (by have := hs s hm; omega)
theorem rlines_ev (l : List ByteArray) (hs : tiny l) : Ev (fun k => sidingref13_Lines.f k l) (linesErr l) := by
 unfold sidingref13_Lines.f linesErr
 by_cases h1 : 60 < l.length
 ·rw [if_pos h1]
  exact Ev.pos (by omega) (Ev.step (fun k => by rw [sidingref13_Lines.j0]) (Ev.pos rfl (Ev.now _)))
 ·rw [if_neg h1]
  refine Ev.neg (by omega) (Ev.bd (text_ev l hs (by omega)) ?_)
  have ht := textOf_length l
  refine Ev.step (fun k => by rw [sidingref13_Lines.j0]) ?_
  by_cases h2 : 2001 < bytesIn l + l.length
  ·rw [if_pos h2]
   exact Ev.pos (decide_eq_true (by omega)) (Ev.now _)
  ·rw [if_neg h2]
   refine Ev.neg (by simp; omega) ?_
   by_cases h3 : l.length = 0
   ·rw [if_pos h3]
    exact Ev.pos (by omega) (Ev.now _)
   ·rw [if_neg h3]
    refine Ev.neg (by omega) (Ev.bc (feed_ev l hs) ?_)
    by_cases h4 : l.any feedy = true
    ·exact Ev.pos h4 (Ev.rt (if_pos h4).symm)
    ·exact Ev.neg h4 (Ev.rt (if_neg h4).symm)
def longOf (l : List ByteArray) : Bool := (l.take 201).any (fun s => decide (3000 < s.size)) || decide (200 < l.length)
theorem long_loop (l : List ByteArray) (hl : l.length ≤ 9000000000000000000) : ∀ (d i : Nat), i + d = 201 → Ev (fun k => sidingref13_Long.l0 k l (i : Int)) (((l.take 201).drop i).any (fun s => decide (3000 < s.size)) || decide (200 < l.length)) := by
 intro d
 induction d with
 | zero =>
  intro i hi
  obtain rfl : i = 201 := by omega
  have e : (l.take 201).drop 201 = [] := List.drop_eq_nil_of_le (by rw [List.length_take]; omega)
  rw [e]
  refine Ev.step (fun k => by rw [sidingref13_Long.l0]) ?_
  by_cases h : 201 < l.length
  ·refine Ev.pos (by omega) (Ev.step (fun k => by rw [sidingref13_Long.j1]) (Ev.neg (by decide) (Ev.rt ?_)))
   simp
   omega
  ·refine Ev.neg (by omega) (Ev.step (fun k => by rw [sidingref13_Long.j1]) (Ev.neg (by decide) (Ev.rt ?_)))
   simp
   omega
 | succ d ih =>
  intro i hi
  refine Ev.step (fun k => by rw [sidingref13_Long.l0]) ?_
  by_cases h : i < l.length
  ·have hlt : i < (l.take 201).length := by rw [List.length_take]; omega
   have e : (l.take 201).drop i = l[i] :: (l.take 201).drop (i + 1) := by rw [drop_at _ i hlt]; simp
   rw [e, List.any_cons]
   refine Ev.pos (by omega) (Ev.step (fun k => by rw [sidingref13_Long.j1]) (Ev.pos (by simp; omega) (Ev.pos (by omega) (Ev.pos (by omega) ?_))))
   rw [rdOf_at _ _ _ h, w64 (by omega)]
   by_cases h3 : 3000 < l[i].size
   ·refine Ev.pos (by omega) (Ev.rt ?_)
    simp [h3]
   ·refine Ev.neg (by omega) ?_
    have := ih (i + 1) (by omega)
    simpa [h3] using this
  ·have e : (l.take 201).drop i = [] := List.drop_eq_nil_of_le (by rw [List.length_take]; omega)
   rw [e]
   refine Ev.neg (by omega) (Ev.step (fun k => by rw [sidingref13_Long.j1]) (Ev.neg (by decide) (Ev.rt ?_)))
   simp
   omega
theorem long_ev (l : List ByteArray) (hl : l.length ≤ 9000000000000000000) : Ev (fun k => sidingref13_Long.f k l) (longOf l) := by
 unfold sidingref13_Long.f
 have h := long_loop l hl 201 0 (by omega)
 simpa [longOf] using h
theorem longOf_false {l : List ByteArray} (h : longOf l = false) : l.length ≤ 200 ∧ ∀ s ∈ l, s.size ≤ 3000 := by
 unfold longOf at h
 rw [Bool.or_eq_false_iff] at h
 obtain ⟨h1, h2⟩ := h
 have hl : l.length ≤ 200 := by simpa using h2
 rw [List.take_of_length_le (by omega), List.any_eq_false] at h1
 exact ⟨hl, fun s hs => by simpa using h1 s hs⟩
theorem longOf_tiny {l : List ByteArray} (h : longOf l = false) : l.length ≤ 200 ∧ tiny l := ⟨(longOf_false h).1, fun s hs => by have := (longOf_false h).2 s hs; omega⟩
theorem same_loop (a b : List ByteArray) (hl : a.length = b.length) (hb : a.length ≤ 9000000000000000000) : ∀ (d i : Nat), i + d = a.length → Ev (fun k => sidingref13_Same.l0 k a b (i : Int)) (decide (a.drop i = b.drop i)) := by
 intro d
 induction d with
 | zero =>
  intro i hi
  obtain rfl : i = a.length := by omega
  refine Ev.step (fun k => by rw [sidingref13_Same.l0]) (Ev.neg (by omega) (Ev.rt ?_))
  rw [List.drop_length, hl, List.drop_length]
  rfl
 | succ d ih =>
  intro i hi
  have h1 : i < a.length := by omega
  have h2 : i < b.length := by omega
  refine Ev.step (fun k => by rw [sidingref13_Same.l0]) (Ev.pos (by omega) (Ev.pos (by omega) (Ev.pos (by omega) ?_)))
  rw [rdOf_at _ _ _ h1, rdOf_at _ _ _ h2, w64 (by omega), drop_at a i h1, drop_at b i h2]
  by_cases h : a[i] = b[i]
  ·refine Ev.pos (toList_inj.2 h) ?_
   refine Ev.eq ?_ (ih (i + 1) (by omega))
   rw [Bool.eq_iff_iff, decide_eq_true_iff, decide_eq_true_iff, h, List.cons.injEq]
   simp
  ·refine Ev.neg (fun e => h (toList_inj.1 e)) (Ev.rt ?_)
   symm
   rw [decide_eq_false_iff_not, List.cons.injEq]
   exact fun e => h e.1
theorem same_ev (a b : List ByteArray) (hb : a.length ≤ 9000000000000000000) : Ev (fun k => sidingref13_Same.f k a b) (decide (a = b)) := by
 unfold sidingref13_Same.f
 by_cases h : a.length = b.length
 ·refine Ev.pos (by omega) ?_
  have := same_loop a b h hb a.length 0 (by omega)
  simpa using this
 ·refine Ev.neg (by omega) (Ev.rt ?_)
  symm
  rw [decide_eq_false_iff_not]
  intro e
  exact h (by rw [e])
end Go.Proofs.YtognfinkolpemaaDoor.Pr
end
