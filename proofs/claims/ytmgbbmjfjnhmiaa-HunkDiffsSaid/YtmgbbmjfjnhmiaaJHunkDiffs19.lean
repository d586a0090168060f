/- Part 19 of the proof of HunkDiffs: texts put together. -/
import Derived.Test.YtmgbbmjfjnhmiaaJHunkDiffs4
import Derived.Test.YtmgbbmjfjnhmiaaJHunkDiffs5
import Derived.Test.YtmgbbmjfjnhmiaaJHunkDiffs6
import Derived.Test.YtmgbbmjfjnhmiaaJHunkDiffs7
import Derived.Test.YtmgbbmjfjnhmiaaJHunkDiffs8
import Derived.Test.YtmgbbmjfjnhmiaaJHunkDiffs9
import Derived.Test.YtmgbbmjfjnhmiaaJHunkDiffs10
import Derived.Test.YtmgbbmjfjnhmiaaJHunkDiffs11
import Derived.Test.YtmgbbmjfjnhmiaaJHunkDiffs14
import Derived.Test.YtmgbbmjfjnhmiaaJHunkDiffs15
import Derived.Test.YtmgbbmjfjnhmiaaJHunkDiffs17
import Derived.Test.YtmgbbmjfjnhmiaaJHunkDiffs18
set_option linter.unusedVariables false
set_option linter.unusedSimpArgs false
section
namespace Go.Proofs.Ytmgbbmjfjnhmiaa.Pr
open Go.RowKit Go.Proofs.YtmgbbmjfjnhmiaaW.PrintWords Go.Proofs.YtmgbbmjfjnhmiaaW.PrintLast Go.Proofs.YtmgbbmjfjnhmiaaW.PrintMore
attribute [local go_sem] max2_int min2_int max_two min_two max_three min_three max_four min_four   
def sidinglaw15_HunkDiffs.j0 : Nat → List ByteArray → List ByteArray → List (S40) → Int → Bool → Option (Bool)
  | 0, _, _, _, _, _ => none
  | k + 1, x0, x1, x2, x3, x25 => if x25 = true then (some true) else ((some (([] : List ByteArray) : List ByteArray)).bind fun y284 => (if y284.length + x0.length < 8796093022208 then ((some (y284 ++ x0 : List ByteArray)).bind fun y287 => ((sidingref15_Twin.f k x2).bind fun t290 => ((hunk_Diff.f k y287 x1).bind fun bt293 => ((ref15_Diff.f k x0 x1).bind fun bt297 => ((hunk_Widen.f k y287 t290 x3).bind fun bt301 => ((sidingref15_Widen.f k x0 x2 x3).bind fun bt305 => ((hunk_Check.f k t290).bind fun t309 => ((sidingref15_Check.f k x2).bind fun t310 => (if t309 = t310 then ((sidingref15_Same.f k bt293.1 bt297.1).bind fun t311 => (if t311 = true then (if bt293.2 = bt297.2 then ((sidingref15_Same.f k bt301.1 bt305.1).bind fun t312 => (if t312 = true then (if bt301.2 = bt305.2 then ((sidingref13_Same.f k y287 x0).bind fun t313 => (if t313 = true then ((sidingref15_Same.f k t290 x2).bind fun t314 => (some t314)) else (some false))) else (some false)) else (some false))) else (some false)) else (some false))) else (some false)))))))))) else (none)))
def sidinglaw15_HunkDiffs.f (k : Nat) (l0 : List ByteArray) (l1 : List ByteArray) (l2 : List (S40)) (a3 : Int) : Option (Bool) := (sidinglaw15_long.f k l0 l1).bind fun t282 => (if t282 = true then (sidinglaw15_HunkDiffs.j0 k l0 l1 l2 a3 true) else ((sidingref15_Long.f k l2).bind fun t283 => (sidinglaw15_HunkDiffs.j0 k l0 l1 l2 a3 t283)))
set_option maxHeartbeats 8000000 in
set_option maxRecDepth 100000 in
theorem sidinglaw15_HunkDiffs.calls (k : Nat) (A0 : Option Addr) (c0 : Nat) (l0 : List ByteArray) (A1 : Option Addr) (c1 : Nat) (l1 : List ByteArray) (A2 : Option Addr) (c2 : Nat) (l2 : List (S40)) (a3 : Int) (r : Bool) (w : World) (hr0 : Kd.C Kd.string w A0 l0.length l0) (hc0 : l0.length ≤ c0) (hr1 : Kd.C Kd.string w A1 l1.length l1) (hc1 : l1.length ≤ c1) (hr2 : Kd.C k40 w A2 l2.length l2) (hc2 : l2.length ≤ c2) (h : sidinglaw15_HunkDiffs.f k l0 l1 l2 a3 = some r) (hr_ : Aside0 (r = true)) :
  Calls Try.prog 3 #[.slice A0 l0.length c0, .slice A1 l1.length c1, .slice A2 l2.length c2, .int .i64 a3] w fun e w' => e = .returned (.bool r) ∧ Below w.heap.size w w' := by
 have HR0 := Aside0.mk hr0
 have HC0 := Aside0.mk hc0
 clear hr0 hc0
 have HR1 := Aside0.mk hr1
 have HC1 := Aside0.mk hc1
 clear hr1 hc1
 have HR2 := Aside0.mk hr2
 have HC2 := Aside0.mk hc2
 clear hr2 hc2
 have HB := Aside0.mk (Below.refl w.heap.size w)
 have H : ((sidinglaw15_long.f k l0 l1).bind fun t282 => (if t282 = true then (sidinglaw15_HunkDiffs.j0 k l0 l1 l2 a3 true) else ((sidingref15_Long.f k l2).bind fun t283 => (sidinglaw15_HunkDiffs.j0 k l0 l1 l2 a3 t283)))) = some r := h
 clear h
 have HC5 := Aside0.mk H
 clear H
 go_enter Try.func3, Try.ntmps3
 go_upto_region 1 with (fail)
 go_cut [25] (fun v25 wc => ∃ (kq : Nat) (x25_4 : Bool), v25 = .bool x25_4 ∧ Aside0 (sidinglaw15_HunkDiffs.j0 kq l0 l1 l2 a3 x25_4 = some r) ∧ Aside0 (kq ≤ k) ∧ Aside0 (Below w.heap.size w wc))
 case first =>
  have H := HC5.out
  clear HC5
  replace H := Option.bind_eq_some_iff.mp H
  obtain ⟨t282, A60, H⟩ := H
  replace H : (if t282 = true then (sidinglaw15_HunkDiffs.j0 k l0 l1 l2 a3 true) else ((sidingref15_Long.f k l2).bind fun t283 => (sidinglaw15_HunkDiffs.j0 k l0 l1 l2 a3 t283))) = some r := H
  have A6 := Aside0.mk A60
  clear A60
  by_cases c7 : t282 = true
  ·subst c7
   have H1 : (sidinglaw15_HunkDiffs.j0 k l0 l1 l2 a3 true) = some r := by rw [if_pos rfl] at H; exact H
   clear H
   have H := H1
   clear H1
   have H' := Aside0.mk H
   clear H
   go_wp2_with (first | ((with_reducible refine gate_callee (f := 4) rfl ?_); refine goesL_ (some 21) rfl rfl Try.func4 (by kernel_rfl) rfl #[.slice A0 l0.length c0, .slice A1 l1.length c1] rfl (by (try simp only [List.map_toArray, List.map_cons, List.map_nil]); first | done | rfl | (simp only [List.length_drop, List.length_take]; rfl)) ?_; (with_reducible refine (sidinglaw15_long.calls k _ _ l0 _ _ l1 true _ ?side1 ?side2 ?side3 ?side4 A6.out).mono ?_); (case side1 => repeat (first | exact (Kd.C_below HR0.out HB.out) | (with_reducible refine Kd.C_alloc ?_ _) | (with_reducible refine Kd.C_drewN ?_ _) | (with_reducible refine Kd.C_drew ?_))); (case side2 => exact HC0.out); (case side3 => repeat (first | exact (Kd.C_below HR1.out HB.out) | (with_reducible refine Kd.C_alloc ?_ _) | (with_reducible refine Kd.C_drewN ?_ _) | (with_reducible refine Kd.C_drew ?_))); (case side4 => exact HC1.out); rintro e w' ⟨rfl, ⟨nd, rfl⟩⟩; refine ⟨_, rfl, ?_⟩))
   go_meet
   case rel => exact ⟨_, (true), (by first | rfl | (simp; done) | (simp [*]; done)), H', ⟨by first | omega | exact Nat.le_refl _⟩, ⟨by repeat (first | (with_reducible first | exact HB.out | apply below_alloc | apply pw_below_drewN | apply below_drew1) | exact HB.out)⟩⟩
  ·replace c7 := Bool.eq_false_iff.mpr c7
   subst c7
   have H1 : ((sidingref15_Long.f k l2).bind fun t283 => (sidinglaw15_HunkDiffs.j0 k l0 l1 l2 a3 t283)) = some r := by rw [if_neg (show ¬ (false = true) by decide)] at H; exact H
   clear H
   have H := H1
   clear H1
   replace H := Option.bind_eq_some_iff.mp H
   obtain ⟨t283, A80, H⟩ := H
   replace H : (sidinglaw15_HunkDiffs.j0 k l0 l1 l2 a3 t283) = some r := H
   have A8 := Aside0.mk A80
   clear A80
   have H' := Aside0.mk H
   clear H
   go_wp2_with (first | ((with_reducible refine gate_callee (f := 4) rfl ?_); refine goesL_ (some 21) rfl rfl Try.func4 (by kernel_rfl) rfl #[.slice A0 l0.length c0, .slice A1 l1.length c1] rfl (by (try simp only [List.map_toArray, List.map_cons, List.map_nil]); first | done | rfl | (simp only [List.length_drop, List.length_take]; rfl)) ?_; (with_reducible refine (sidinglaw15_long.calls k _ _ l0 _ _ l1 false _ ?side1 ?side2 ?side3 ?side4 A6.out).mono ?_); (case side1 => repeat (first | exact (Kd.C_below HR0.out HB.out) | (with_reducible refine Kd.C_alloc ?_ _) | (with_reducible refine Kd.C_drewN ?_ _) | (with_reducible refine Kd.C_drew ?_))); (case side2 => exact HC0.out); (case side3 => repeat (first | exact (Kd.C_below HR1.out HB.out) | (with_reducible refine Kd.C_alloc ?_ _) | (with_reducible refine Kd.C_drewN ?_ _) | (with_reducible refine Kd.C_drew ?_))); (case side4 => exact HC1.out); rintro e w' ⟨rfl, ⟨nd, rfl⟩⟩; refine ⟨_, rfl, ?_⟩) | (go_at_call 5; (with_reducible refine (sidingref15_Long.calls k _ _ l2 t283 _ ?side1 ?side2 A8.out).mono ?_); (case side1 => repeat (first | exact (Kd.C_below HR2.out (by repeat (first | (with_reducible first | exact HB.out | apply below_alloc | apply pw_below_drewN | apply below_drew1) | exact HB.out))) | (with_reducible refine Kd.C_alloc ?_ _) | (with_reducible refine Kd.C_drewN ?_ _) | (with_reducible refine Kd.C_drew ?_))); (case side2 => exact HC2.out); rintro e w' ⟨rfl, ⟨nd, rfl⟩⟩))
   go_meet
   case rel => exact ⟨_, (t283), (by first | rfl | (simp; done) | (simp [*]; done)), H', ⟨by first | omega | exact Nat.le_refl _⟩, ⟨by repeat (first | (with_reducible first | exact HB.out | apply below_alloc | apply pw_below_drewN | apply below_drew1) | exact HB.out)⟩⟩
 case rest =>
  clear HC5
  try clear c1
  try clear c2
  try clear p2
  try clear c3
  try clear c4
  try clear c7
  obtain ⟨kq, x25_4, rfl, HA, HJ4, HB⟩ := hcut
  cases kq with
  | zero => exact absurd HA.out (by simp [sidinglaw15_HunkDiffs.j0])
  | succ kj4 =>
   have H := HA.out
   clear HA
   simp only [sidinglaw15_HunkDiffs.j0] at H
   by_cases c9 : x25_4 = true
   ·subst c9
    have H1 : (some true) = some r := by rw [if_pos rfl] at H; exact H
    clear H
    have H := H1
    clear H1
    obtain rfl := Option.some.inj H
    go_wp2
    go_ret
    exact ⟨by first | rfl | (simp [errW_none, errW_some] <;> rfl) | (simp [*, errW_none, errW_some] <;> rfl), by repeat (first | (with_reducible first | exact HB.out | apply below_alloc | apply pw_below_drewN | apply below_drew1) | exact HB.out)⟩
   ·replace c9 := Bool.eq_false_iff.mpr c9
    subst c9
    have H1 : ((some (([] : List ByteArray) : List ByteArray)).bind fun y284 => (if y284.length + l0.length < 8796093022208 then ((some (y284 ++ l0 : List ByteArray)).bind fun y287 => ((sidingref15_Twin.f kj4 l2).bind fun t290 => ((hunk_Diff.f kj4 y287 l1).bind fun bt293 => ((ref15_Diff.f kj4 l0 l1).bind fun bt297 => ((hunk_Widen.f kj4 y287 t290 a3).bind fun bt301 => ((sidingref15_Widen.f kj4 l0 l2 a3).bind fun bt305 => ((hunk_Check.f kj4 t290).bind fun t309 => ((sidingref15_Check.f kj4 l2).bind fun t310 => (if t309 = t310 then ((sidingref15_Same.f kj4 bt293.1 bt297.1).bind fun t311 => (if t311 = true then (if bt293.2 = bt297.2 then ((sidingref15_Same.f kj4 bt301.1 bt305.1).bind fun t312 => (if t312 = true then (if bt301.2 = bt305.2 then ((sidingref13_Same.f kj4 y287 l0).bind fun t313 => (if t313 = true then ((sidingref15_Same.f kj4 t290 l2).bind fun t314 => (some t314)) else (some false))) else (some false)) else (some false))) else (some false)) else (some false))) else (some false)))))))))) else (none))) = some r := by rw [if_neg (show ¬ (false = true) by decide)] at H; exact H
    clear H
    have H := H1
    clear H1
    obtain ⟨y284, hy284⟩ : ∃ y_ : List ByteArray, y_ = (([] : List ByteArray)) := ⟨_, rfl⟩
    replace H : (if y284.length + l0.length < 8796093022208 then ((some (y284 ++ l0 : List ByteArray)).bind fun y287 => ((sidingref15_Twin.f kj4 l2).bind fun t290 => ((hunk_Diff.f kj4 y287 l1).bind fun bt293 => ((ref15_Diff.f kj4 l0 l1).bind fun bt297 => ((hunk_Widen.f kj4 y287 t290 a3).bind fun bt301 => ((sidingref15_Widen.f kj4 l0 l2 a3).bind fun bt305 => ((hunk_Check.f kj4 t290).bind fun t309 => ((sidingref15_Check.f kj4 l2).bind fun t310 => (if t309 = t310 then ((sidingref15_Same.f kj4 bt293.1 bt297.1).bind fun t311 => (if t311 = true then (if bt293.2 = bt297.2 then ((sidingref15_Same.f kj4 bt301.1 bt305.1).bind fun t312 => (if t312 = true then (if bt301.2 = bt305.2 then ((sidingref13_Same.f kj4 y287 l0).bind fun t313 => (if t313 = true then ((sidingref15_Same.f kj4 t290 l2).bind fun t314 => (some t314)) else (some false))) else (some false)) else (some false))) else (some false)) else (some false))) else (some false)))))))))) else (none)) = some r := by first | (rw [hy284]; with_reducible exact H) | (have H2_ := (Option.bind_some _ _).symm.trans H; rw [hy284]; with_reducible exact H2_) | (have H2_ := (Option.bind_some _ _).symm.trans H; with_reducible exact H2_) | with_reducible exact H | (rw [hy284]; exact H) | exact H
    have Ny284 := Aside0.mk hy284
    clear hy284
    by_cases c10 : y284.length + l0.length < 8796093022208
    ·rw [if_pos c10] at H
     have LMc10 := Aside0.mk c10
     clear c10
     obtain ⟨y287, hy287⟩ : ∃ y_ : List ByteArray, y_ = (y284 ++ l0) := ⟨_, rfl⟩
     replace H : ((sidingref15_Twin.f kj4 l2).bind fun t290 => ((hunk_Diff.f kj4 y287 l1).bind fun bt293 => ((ref15_Diff.f kj4 l0 l1).bind fun bt297 => ((hunk_Widen.f kj4 y287 t290 a3).bind fun bt301 => ((sidingref15_Widen.f kj4 l0 l2 a3).bind fun bt305 => ((hunk_Check.f kj4 t290).bind fun t309 => ((sidingref15_Check.f kj4 l2).bind fun t310 => (if t309 = t310 then ((sidingref15_Same.f kj4 bt293.1 bt297.1).bind fun t311 => (if t311 = true then (if bt293.2 = bt297.2 then ((sidingref15_Same.f kj4 bt301.1 bt305.1).bind fun t312 => (if t312 = true then (if bt301.2 = bt305.2 then ((sidingref13_Same.f kj4 y287 l0).bind fun t313 => (if t313 = true then ((sidingref15_Same.f kj4 t290 l2).bind fun t314 => (some t314)) else (some false))) else (some false)) else (some false))) else (some false)) else (some false))) else (some false))))))))) = some r := by first | (rw [hy287]; with_reducible exact H) | (have H2_ := (Option.bind_some _ _).symm.trans H; rw [hy287]; with_reducible exact H2_) | (have H2_ := (Option.bind_some _ _).symm.trans H; with_reducible exact H2_) | with_reducible exact H | (rw [hy287]; exact H) | exact H
     have Ny287 := Aside0.mk hy287
     clear hy287
     replace H := Option.bind_eq_some_iff.mp H
     obtain ⟨t290, A110, H⟩ := H
     replace H : ((hunk_Diff.f kj4 y287 l1).bind fun bt293 => ((ref15_Diff.f kj4 l0 l1).bind fun bt297 => ((hunk_Widen.f kj4 y287 t290 a3).bind fun bt301 => ((sidingref15_Widen.f kj4 l0 l2 a3).bind fun bt305 => ((hunk_Check.f kj4 t290).bind fun t309 => ((sidingref15_Check.f kj4 l2).bind fun t310 => (if t309 = t310 then ((sidingref15_Same.f kj4 bt293.1 bt297.1).bind fun t311 => (if t311 = true then (if bt293.2 = bt297.2 then ((sidingref15_Same.f kj4 bt301.1 bt305.1).bind fun t312 => (if t312 = true then (if bt301.2 = bt305.2 then ((sidingref13_Same.f kj4 y287 l0).bind fun t313 => (if t313 = true then ((sidingref15_Same.f kj4 t290 l2).bind fun t314 => (some t314)) else (some false))) else (some false)) else (some false))) else (some false)) else (some false))) else (some false)))))))) = some r := H
     have A11 := Aside0.mk A110
     clear A110
     replace H := Option.bind_eq_some_iff.mp H
     obtain ⟨⟨t293, t294⟩, A120, H⟩ := H
     replace H : ((ref15_Diff.f kj4 l0 l1).bind fun bt297 => ((hunk_Widen.f kj4 y287 t290 a3).bind fun bt301 => ((sidingref15_Widen.f kj4 l0 l2 a3).bind fun bt305 => ((hunk_Check.f kj4 t290).bind fun t309 => ((sidingref15_Check.f kj4 l2).bind fun t310 => (if t309 = t310 then ((sidingref15_Same.f kj4 t293 bt297.1).bind fun t311 => (if t311 = true then (if t294 = bt297.2 then ((sidingref15_Same.f kj4 bt301.1 bt305.1).bind fun t312 => (if t312 = true then (if bt301.2 = bt305.2 then ((sidingref13_Same.f kj4 y287 l0).bind fun t313 => (if t313 = true then ((sidingref15_Same.f kj4 t290 l2).bind fun t314 => (some t314)) else (some false))) else (some false)) else (some false))) else (some false)) else (some false))) else (some false))))))) = some r := H
     have A12 := Aside0.mk A120
     clear A120
     replace H := Option.bind_eq_some_iff.mp H
     obtain ⟨⟨t297, t298⟩, A130, H⟩ := H
     replace H : ((hunk_Widen.f kj4 y287 t290 a3).bind fun bt301 => ((sidingref15_Widen.f kj4 l0 l2 a3).bind fun bt305 => ((hunk_Check.f kj4 t290).bind fun t309 => ((sidingref15_Check.f kj4 l2).bind fun t310 => (if t309 = t310 then ((sidingref15_Same.f kj4 t293 t297).bind fun t311 => (if t311 = true then (if t294 = t298 then ((sidingref15_Same.f kj4 bt301.1 bt305.1).bind fun t312 => (if t312 = true then (if bt301.2 = bt305.2 then ((sidingref13_Same.f kj4 y287 l0).bind fun t313 => (if t313 = true then ((sidingref15_Same.f kj4 t290 l2).bind fun t314 => (some t314)) else (some false))) else (some false)) else (some false))) else (some false)) else (some false))) else (some false)))))) = some r := H
     have A13 := Aside0.mk A130
     clear A130
     replace H := Option.bind_eq_some_iff.mp H
     obtain ⟨⟨t301, t302⟩, A140, H⟩ := H
     replace H : ((sidingref15_Widen.f kj4 l0 l2 a3).bind fun bt305 => ((hunk_Check.f kj4 t290).bind fun t309 => ((sidingref15_Check.f kj4 l2).bind fun t310 => (if t309 = t310 then ((sidingref15_Same.f kj4 t293 t297).bind fun t311 => (if t311 = true then (if t294 = t298 then ((sidingref15_Same.f kj4 t301 bt305.1).bind fun t312 => (if t312 = true then (if t302 = bt305.2 then ((sidingref13_Same.f kj4 y287 l0).bind fun t313 => (if t313 = true then ((sidingref15_Same.f kj4 t290 l2).bind fun t314 => (some t314)) else (some false))) else (some false)) else (some false))) else (some false)) else (some false))) else (some false))))) = some r := H
     have A14 := Aside0.mk A140
     clear A140
     replace H := Option.bind_eq_some_iff.mp H
     obtain ⟨⟨t305, t306⟩, A150, H⟩ := H
     replace H : ((hunk_Check.f kj4 t290).bind fun t309 => ((sidingref15_Check.f kj4 l2).bind fun t310 => (if t309 = t310 then ((sidingref15_Same.f kj4 t293 t297).bind fun t311 => (if t311 = true then (if t294 = t298 then ((sidingref15_Same.f kj4 t301 t305).bind fun t312 => (if t312 = true then (if t302 = t306 then ((sidingref13_Same.f kj4 y287 l0).bind fun t313 => (if t313 = true then ((sidingref15_Same.f kj4 t290 l2).bind fun t314 => (some t314)) else (some false))) else (some false)) else (some false))) else (some false)) else (some false))) else (some false)))) = some r := H
     have A15 := Aside0.mk A150
     clear A150
     replace H := Option.bind_eq_some_iff.mp H
     obtain ⟨t309, A160, H⟩ := H
     replace H : ((sidingref15_Check.f kj4 l2).bind fun t310 => (if t309 = t310 then ((sidingref15_Same.f kj4 t293 t297).bind fun t311 => (if t311 = true then (if t294 = t298 then ((sidingref15_Same.f kj4 t301 t305).bind fun t312 => (if t312 = true then (if t302 = t306 then ((sidingref13_Same.f kj4 y287 l0).bind fun t313 => (if t313 = true then ((sidingref15_Same.f kj4 t290 l2).bind fun t314 => (some t314)) else (some false))) else (some false)) else (some false))) else (some false)) else (some false))) else (some false))) = some r := H
     have A16 := Aside0.mk A160
     clear A160
     replace H := Option.bind_eq_some_iff.mp H
     obtain ⟨t310, A170, H⟩ := H
     replace H : (if t309 = t310 then ((sidingref15_Same.f kj4 t293 t297).bind fun t311 => (if t311 = true then (if t294 = t298 then ((sidingref15_Same.f kj4 t301 t305).bind fun t312 => (if t312 = true then (if t302 = t306 then ((sidingref13_Same.f kj4 y287 l0).bind fun t313 => (if t313 = true then ((sidingref15_Same.f kj4 t290 l2).bind fun t314 => (some t314)) else (some false))) else (some false)) else (some false))) else (some false)) else (some false))) else (some false)) = some r := H
     have A17 := Aside0.mk A170
     clear A170
     by_cases c18 : t309 = t310
     ·rw [if_pos c18] at H
      have c18b0 : (t309 == t310) = true := beq_iff_eq.mpr c18
      have c18b1 : (t309 != t310) = false := bne_eq_false_iff_eq.mpr c18
      clear c18
      replace H := Option.bind_eq_some_iff.mp H
      obtain ⟨t311, A190, H⟩ := H
      replace H : (if t311 = true then (if t294 = t298 then ((sidingref15_Same.f kj4 t301 t305).bind fun t312 => (if t312 = true then (if t302 = t306 then ((sidingref13_Same.f kj4 y287 l0).bind fun t313 => (if t313 = true then ((sidingref15_Same.f kj4 t290 l2).bind fun t314 => (some t314)) else (some false))) else (some false)) else (some false))) else (some false)) else (some false)) = some r := H
      have A19 := Aside0.mk A190
      clear A190
      by_cases c20 : t311 = true
      ·subst c20
       have H1 : (if t294 = t298 then ((sidingref15_Same.f kj4 t301 t305).bind fun t312 => (if t312 = true then (if t302 = t306 then ((sidingref13_Same.f kj4 y287 l0).bind fun t313 => (if t313 = true then ((sidingref15_Same.f kj4 t290 l2).bind fun t314 => (some t314)) else (some false))) else (some false)) else (some false))) else (some false)) = some r := by rw [if_pos rfl] at H; exact H
       clear H
       have H := H1
       clear H1
       by_cases c21 : t294 = t298
       ·rw [if_pos c21] at H
        have c21b0 : (t294 == t298) = true := beq_iff_eq.mpr c21
        have c21b1 : (t294 != t298) = false := bne_eq_false_iff_eq.mpr c21
        clear c21
        replace H := Option.bind_eq_some_iff.mp H
        obtain ⟨t312, A220, H⟩ := H
        replace H : (if t312 = true then (if t302 = t306 then ((sidingref13_Same.f kj4 y287 l0).bind fun t313 => (if t313 = true then ((sidingref15_Same.f kj4 t290 l2).bind fun t314 => (some t314)) else (some false))) else (some false)) else (some false)) = some r := H
        have A22 := Aside0.mk A220
        (try have sameA22 := (Option.some.inj (A19.out.symm.trans A22.out) : t311 = t312))
        clear A220
        by_cases c23 : t312 = true
        ·subst c23
         have H1 : (if t302 = t306 then ((sidingref13_Same.f kj4 y287 l0).bind fun t313 => (if t313 = true then ((sidingref15_Same.f kj4 t290 l2).bind fun t314 => (some t314)) else (some false))) else (some false)) = some r := by rw [if_pos rfl] at H; exact H
         clear H
         have H := H1
         clear H1
         by_cases c24 : t302 = t306
         ·rw [if_pos c24] at H
          have c24b0 : (t302 == t306) = true := beq_iff_eq.mpr c24
          have c24b1 : (t302 != t306) = false := bne_eq_false_iff_eq.mpr c24
          clear c24
          replace H := Option.bind_eq_some_iff.mp H
          obtain ⟨t313, A250, H⟩ := H
          replace H : (if t313 = true then ((sidingref15_Same.f kj4 t290 l2).bind fun t314 => (some t314)) else (some false)) = some r := H
          have A25 := Aside0.mk A250
          clear A250
          by_cases c26 : t313 = true
          ·subst c26
           have H1 : ((sidingref15_Same.f kj4 t290 l2).bind fun t314 => (some t314)) = some r := by rw [if_pos rfl] at H; exact H
           clear H
           have H := H1
           clear H1
           replace H := Option.bind_eq_some_iff.mp H
           obtain ⟨t314, A270, H⟩ := H
           replace H : (some t314) = some r := H
           have A27 := Aside0.mk A270
           (try have sameA27 := (Option.some.inj (A22.out.symm.trans A27.out) : t312 = t314))
           clear A270
           obtain rfl := Option.some.inj H
           go_wp2_with (first | ((with_reducible refine gate_dst (N := 26) rfl ?_); refine Kd.R_lit Kd.string _ 9 ?hg (N := 26) ?hd (xs := ([] : List ByteArray)) (inner := []) (ok := fun _ => True) (okp := fun _ => True) ?hr ?hp (fun _ hk => hk) trivial (Below.refl _ _) (Nat.le_refl _) (by simp) ?_; (case hd => rfl); (case hg => rfl); (case hr => first | (go_simp; done) | (go_simp; rfl)); (case hp => exact (Reps.none _ _)); intro v285 w28 ho29 hb hg_ hnew_; clear hg_ hnew_; (first | rw [← Ny284.out] at ho29 | (simp only [Int.reduceToNat] at ho29; rw [← Ny284.out] at ho29)); have n0_ := Aside0.mk (Kd.R_lower ho29 (below_size (by repeat (first | (with_reducible first | exact HB.out | apply below_alloc | apply pw_below_drewN | apply below_drew1) | exact HB.out)))); have n1_ := Aside0.mk (below_step (by repeat (first | (with_reducible first | exact HB.out | apply below_alloc | apply pw_below_drewN | apply below_drew1) | exact HB.out)) hb); clear HB; have HO286 := n0_; have HB := n1_; clear n0_ n1_; clear hb ho29) | ((with_reducible refine gate_builtin (b := .append) (xs := #[.tmp 26, .tmp 27]) rfl ?_); at_builtin; refine Kd.R_append_rows Kd.string (w0 := w) w.heap.size rfl (.tmp 26) (.tmp 27) 22 9 (.string ⟨#[]⟩) 16 rfl Try.underlying22 info9 rfl (by decide) (by omega) v285 y284 l0 _ _ _ (fun _ => True) (fun _ => False) rfl rfl ?aO ?aR (fun _ _ h => h) (fun _ h => h.elim) ?aF ?aB ?aS ?aL ?_; (case aR => repeat (first | exact (Kd.C_below HR0.out HB.out) | (with_reducible refine Kd.C_alloc ?_ _) | (with_reducible refine Kd.C_drewN ?_ _) | (with_reducible refine Kd.C_drew ?_))); (case aB => exact (by repeat (first | (with_reducible first | exact HB.out | apply below_alloc | apply pw_below_drewN | apply below_drew1) | exact HB.out))); (case aF => exact (fun _ _ => trivial)); (case aO => exact (by (with_reducible repeat (first | apply Kd.R_alloc | apply Kd.R_drewN | apply Kd.R_drew)); exact HO286.out)); (case aS => exact (below_size (by repeat (first | (with_reducible first | exact HB.out | apply below_alloc | apply pw_below_drewN | apply below_drew1) | exact HB.out)))); (case aL => have := LMc10.out; omega); intro v288 w30 ho hb hg hat; rw [← Ny287.out] at ho; have n0_ := Aside0.mk (hb); have n1_ := Aside0.mk (ho); clear HB; clear HO286; have HB := n0_; have HO289 := n1_; clear n0_ n1_; clear ho hb hg hat) | ((with_reducible refine gate_callee (f := 6) rfl ?_); refine goesL_ (some 30) rfl rfl Try.func6 (by kernel_rfl) rfl #[.slice A2 l2.length c2] rfl (by (try simp only [List.map_toArray, List.map_cons, List.map_nil]); first | done | rfl | (simp only [List.length_drop, List.length_take]; rfl)) ?_; (with_reducible refine (sidingref15_Twin.calls kj4 _ _ l2 t290 _ ?side1 ?side2 A11.out).mono ?_); (case side1 => repeat (first | exact (Kd.C_below HR2.out HB.out) | (with_reducible refine Kd.C_alloc ?_ _) | (with_reducible refine Kd.C_drewN ?_ _) | (with_reducible refine Kd.C_drew ?_))); (case side2 => exact HC2.out); rintro e w31 ⟨v291, rfl, ho0, hb⟩; refine ⟨_, rfl, ?_⟩; have n0_ := Aside0.mk (Kd.R_below (by (with_reducible repeat (first | apply Kd.R_alloc | apply Kd.R_drewN | apply Kd.R_drew)); exact HO289.out) hb); have n1_ := Aside0.mk (Kd.S_lower (Kd.S_new' ho0 (Kd.R_lt (by (with_reducible repeat (first | apply Kd.R_alloc | apply Kd.R_drewN | apply Kd.R_drew)); exact HO289.out))) (below_size (by repeat (first | (with_reducible first | exact HB.out | apply below_alloc | apply pw_below_drewN | apply below_drew1) | exact HB.out)))); have n2_ := Aside0.mk (below_step (by repeat (first | (with_reducible first | exact HB.out | apply below_alloc | apply pw_below_drewN | apply below_drew1) | exact HB.out)) hb); clear HO289; clear HB; have HO289 := n0_; have HO292 := n1_; have HB := n2_; clear n0_ n1_ n2_; (try clear hb); (try clear hb2); (try clear hk); (try clear hi); (try clear ho0); obtain ⟨Ao32, co32, eo32⟩ := Kd.R_slice HO289.out; subst eo32) | ((with_reducible refine gate_callee (f := 7) rfl ?_); refine goesL_ (some 34) rfl rfl Try.func7 (by kernel_rfl) rfl #[.slice Ao32 y287.length co32, .slice A1 l1.length c1] rfl (by (try simp only [List.map_toArray, List.map_cons, List.map_nil]); first | done | rfl | (simp only [List.length_drop, List.length_take]; rfl)) ?_; (with_reducible refine (hunk_Diff.calls kj4 _ _ y287 _ _ l1 t293 t294 _ ?side1 ?side2 ?side3 ?side4 A12.out).mono ?_); (case side1 => repeat (first | exact (Kd.R_reads' HO289.out).2.2 | (with_reducible refine Kd.C_alloc ?_ _) | (with_reducible refine Kd.C_drewN ?_ _) | (with_reducible refine Kd.C_drew ?_))); (case side2 => exact (Kd.R_reads' HO289.out).2.1); (case side3 => repeat (first | exact (Kd.C_below HR1.out HB.out) | (with_reducible refine Kd.C_alloc ?_ _) | (with_reducible refine Kd.C_drewN ?_ _) | (with_reducible refine Kd.C_drew ?_))); (case side4 => exact HC1.out); rintro e w33 ⟨v295, rfl, ho0, hb⟩; refine ⟨_, rfl, ?_⟩; have n0_ := Aside0.mk (Kd.R_below (by (with_reducible repeat (first | apply Kd.R_alloc | apply Kd.R_drewN | apply Kd.R_drew)); exact HO289.out) hb); have n1_ := Aside0.mk (Kd.S_elder' (by (with_reducible repeat (first | apply Kd.S_alloc | apply Kd.S_drewN | apply Kd.S_drew)); exact HO292.out) (Kd.S_base ho0) hb); have n2_ := Aside0.mk (Kd.S_lower (Kd.S_new' (Kd.S_new' ho0 (Kd.R_lt (by (with_reducible repeat (first | apply Kd.R_alloc | apply Kd.R_drewN | apply Kd.R_drew)); exact HO289.out))) (Kd.S_lt (by (with_reducible repeat (first | apply Kd.S_alloc | apply Kd.S_drewN | apply Kd.S_drew)); exact HO292.out))) (below_size (by repeat (first | (with_reducible first | exact HB.out | apply below_alloc | apply pw_below_drewN | apply below_drew1) | exact HB.out)))); have n3_ := Aside0.mk (below_step (by repeat (first | (with_reducible first | exact HB.out | apply below_alloc | apply pw_below_drewN | apply below_drew1) | exact HB.out)) hb); clear HO289; clear HO292; clear HB; have HO289 := n0_; have HO292 := n1_; have HO296 := n2_; have HB := n3_; clear n0_ n1_ n2_ n3_; (try clear hb); (try clear hb2); (try clear hk); (try clear hi); (try clear ho0)) | ((with_reducible refine gate_callee (f := 8) rfl ?_); refine goesL_ (some 40) rfl rfl Try.func8 (by kernel_rfl) rfl #[.slice A0 l0.length c0, .slice A1 l1.length c1] rfl (by (try simp only [List.map_toArray, List.map_cons, List.map_nil]); first | done | rfl | (simp only [List.length_drop, List.length_take]; rfl)) ?_; (with_reducible refine (ref15_Diff.calls kj4 _ _ l0 _ _ l1 t297 t298 _ ?side1 ?side2 ?side3 ?side4 A13.out).mono ?_); (case side1 => repeat (first | exact (Kd.C_below HR0.out HB.out) | (with_reducible refine Kd.C_alloc ?_ _) | (with_reducible refine Kd.C_drewN ?_ _) | (with_reducible refine Kd.C_drew ?_))); (case side2 => exact HC0.out); (case side3 => repeat (first | exact (Kd.C_below HR1.out HB.out) | (with_reducible refine Kd.C_alloc ?_ _) | (with_reducible refine Kd.C_drewN ?_ _) | (with_reducible refine Kd.C_drew ?_))); (case side4 => exact HC1.out); rintro e w34 ⟨v299, rfl, ho0, hb⟩; refine ⟨_, rfl, ?_⟩; have n0_ := Aside0.mk (Kd.R_below (by (with_reducible repeat (first | apply Kd.R_alloc | apply Kd.R_drewN | apply Kd.R_drew)); exact HO289.out) hb); have n1_ := Aside0.mk (Kd.S_elder' (by (with_reducible repeat (first | apply Kd.S_alloc | apply Kd.S_drewN | apply Kd.S_drew)); exact HO292.out) (Kd.S_base ho0) hb); have n2_ := Aside0.mk (Kd.S_elder' (by (with_reducible repeat (first | apply Kd.S_alloc | apply Kd.S_drewN | apply Kd.S_drew)); exact HO296.out) (Kd.S_base ho0) hb); have n3_ := Aside0.mk (Kd.S_lower (Kd.S_new' (Kd.S_new' (Kd.S_new' ho0 (Kd.R_lt (by (with_reducible repeat (first | apply Kd.R_alloc | apply Kd.R_drewN | apply Kd.R_drew)); exact HO289.out))) (Kd.S_lt (by (with_reducible repeat (first | apply Kd.S_alloc | apply Kd.S_drewN | apply Kd.S_drew)); exact HO292.out))) (Kd.S_lt (by (with_reducible repeat (first | apply Kd.S_alloc | apply Kd.S_drewN | apply Kd.S_drew)); exact HO296.out))) (below_size (by repeat (first | (with_reducible first | exact HB.out | apply below_alloc | apply pw_below_drewN | apply below_drew1) | exact HB.out)))); have n4_ := Aside0.mk (below_step (by repeat (first | (with_reducible first | exact HB.out | apply below_alloc | apply pw_below_drewN | apply below_drew1) | exact HB.out)) hb); clear HO289; clear HO292; clear HO296; clear HB; have HO289 := n0_; have HO292 := n1_; have HO296 := n2_; have HO300 := n3_; have HB := n4_; clear n0_ n1_ n2_ n3_ n4_; (try clear hb); (try clear hb2); (try clear hk); (try clear hi); (try clear ho0); obtain ⟨Ao35, co35, eo35⟩ := Kd.S_slice HO292.out; subst eo35) | ((with_reducible refine gate_callee (f := 9) rfl ?_); refine goesL_ (some 47) rfl rfl Try.func9 (by kernel_rfl) rfl #[.slice Ao32 y287.length co32, .slice Ao35 t290.length co35, .int .i64 a3] rfl (by (try simp only [List.map_toArray, List.map_cons, List.map_nil]); first | done | rfl | (simp only [List.length_drop, List.length_take]; rfl)) ?_; (with_reducible refine (hunk_Widen.calls kj4 _ _ y287 _ _ t290 a3 t301 t302 _ ?side1 ?side2 ?side3 ?side4 A14.out).mono ?_); (case side1 => repeat (first | exact (Kd.R_reads' HO289.out).2.2 | (with_reducible refine Kd.C_alloc ?_ _) | (with_reducible refine Kd.C_drewN ?_ _) | (with_reducible refine Kd.C_drew ?_))); (case side2 => exact (Kd.R_reads' HO289.out).2.1); (case side3 => repeat (first | exact (Kd.S_reads' HO292.out).2.2 | (with_reducible refine Kd.C_alloc ?_ _) | (with_reducible refine Kd.C_drewN ?_ _) | (with_reducible refine Kd.C_drew ?_))); (case side4 => exact (Kd.S_reads' HO292.out).2.1); rintro e w36 ⟨v303, rfl, ho0, hb⟩; refine ⟨_, rfl, ?_⟩; have n0_ := Aside0.mk (Kd.R_below (by (with_reducible repeat (first | apply Kd.R_alloc | apply Kd.R_drewN | apply Kd.R_drew)); exact HO289.out) hb); have n1_ := Aside0.mk (Kd.S_elder' (by (with_reducible repeat (first | apply Kd.S_alloc | apply Kd.S_drewN | apply Kd.S_drew)); exact HO292.out) (Kd.S_base ho0) hb); have n2_ := Aside0.mk (Kd.S_elder' (by (with_reducible repeat (first | apply Kd.S_alloc | apply Kd.S_drewN | apply Kd.S_drew)); exact HO296.out) (Kd.S_base ho0) hb); have n3_ := Aside0.mk (Kd.S_elder' (by (with_reducible repeat (first | apply Kd.S_alloc | apply Kd.S_drewN | apply Kd.S_drew)); exact HO300.out) (Kd.S_base ho0) hb); have n4_ := Aside0.mk (Kd.S_lower (Kd.S_new' (Kd.S_new' (Kd.S_new' (Kd.S_new' ho0 (Kd.R_lt (by (with_reducible repeat (first | apply Kd.R_alloc | apply Kd.R_drewN | apply Kd.R_drew)); exact HO289.out))) (Kd.S_lt (by (with_reducible repeat (first | apply Kd.S_alloc | apply Kd.S_drewN | apply Kd.S_drew)); exact HO292.out))) (Kd.S_lt (by (with_reducible repeat (first | apply Kd.S_alloc | apply Kd.S_drewN | apply Kd.S_drew)); exact HO296.out))) (Kd.S_lt (by (with_reducible repeat (first | apply Kd.S_alloc | apply Kd.S_drewN | apply Kd.S_drew)); exact HO300.out))) (below_size (by repeat (first | (with_reducible first | exact HB.out | apply below_alloc | apply pw_below_drewN | apply below_drew1) | exact HB.out)))); have n5_ := Aside0.mk (below_step (by repeat (first | (with_reducible first | exact HB.out | apply below_alloc | apply pw_below_drewN | apply below_drew1) | exact HB.out)) hb); clear HO289; clear HO292; clear HO296; clear HO300; clear HB; have HO289 := n0_; have HO292 := n1_; have HO296 := n2_; have HO300 := n3_; have HO304 := n4_; have HB := n5_; clear n0_ n1_ n2_ n3_ n4_ n5_; (try clear hb); (try clear hb2); (try clear hk); (try clear hi); (try clear ho0)) | ((with_reducible refine gate_callee (f := 10) rfl ?_); refine goesL_ (some 54) rfl rfl Try.func10 (by kernel_rfl) rfl #[.slice A0 l0.length c0, .slice A2 l2.length c2, .int .i64 a3] rfl (by (try simp only [List.map_toArray, List.map_cons, List.map_nil]); first | done | rfl | (simp only [List.length_drop, List.length_take]; rfl)) ?_; (with_reducible refine (sidingref15_Widen.calls kj4 _ _ l0 _ _ l2 a3 t305 t306 _ ?side1 ?side2 ?side3 ?side4 A15.out).mono ?_); (case side1 => repeat (first | exact (Kd.C_below HR0.out HB.out) | (with_reducible refine Kd.C_alloc ?_ _) | (with_reducible refine Kd.C_drewN ?_ _) | (with_reducible refine Kd.C_drew ?_))); (case side2 => exact HC0.out); (case side3 => repeat (first | exact (Kd.C_below HR2.out HB.out) | (with_reducible refine Kd.C_alloc ?_ _) | (with_reducible refine Kd.C_drewN ?_ _) | (with_reducible refine Kd.C_drew ?_))); (case side4 => exact HC2.out); rintro e w37 ⟨v307, rfl, ho0, hb⟩; refine ⟨_, rfl, ?_⟩; have n0_ := Aside0.mk (Kd.R_below (by (with_reducible repeat (first | apply Kd.R_alloc | apply Kd.R_drewN | apply Kd.R_drew)); exact HO289.out) hb); have n1_ := Aside0.mk (Kd.S_elder' (by (with_reducible repeat (first | apply Kd.S_alloc | apply Kd.S_drewN | apply Kd.S_drew)); exact HO292.out) (Kd.S_base ho0) hb); have n2_ := Aside0.mk (Kd.S_elder' (by (with_reducible repeat (first | apply Kd.S_alloc | apply Kd.S_drewN | apply Kd.S_drew)); exact HO296.out) (Kd.S_base ho0) hb); have n3_ := Aside0.mk (Kd.S_elder' (by (with_reducible repeat (first | apply Kd.S_alloc | apply Kd.S_drewN | apply Kd.S_drew)); exact HO300.out) (Kd.S_base ho0) hb); have n4_ := Aside0.mk (Kd.S_elder' (by (with_reducible repeat (first | apply Kd.S_alloc | apply Kd.S_drewN | apply Kd.S_drew)); exact HO304.out) (Kd.S_base ho0) hb); have n5_ := Aside0.mk (Kd.S_lower (Kd.S_new' (Kd.S_new' (Kd.S_new' (Kd.S_new' (Kd.S_new' ho0 (Kd.R_lt (by (with_reducible repeat (first | apply Kd.R_alloc | apply Kd.R_drewN | apply Kd.R_drew)); exact HO289.out))) (Kd.S_lt (by (with_reducible repeat (first | apply Kd.S_alloc | apply Kd.S_drewN | apply Kd.S_drew)); exact HO292.out))) (Kd.S_lt (by (with_reducible repeat (first | apply Kd.S_alloc | apply Kd.S_drewN | apply Kd.S_drew)); exact HO296.out))) (Kd.S_lt (by (with_reducible repeat (first | apply Kd.S_alloc | apply Kd.S_drewN | apply Kd.S_drew)); exact HO300.out))) (Kd.S_lt (by (with_reducible repeat (first | apply Kd.S_alloc | apply Kd.S_drewN | apply Kd.S_drew)); exact HO304.out))) (below_size (by repeat (first | (with_reducible first | exact HB.out | apply below_alloc | apply pw_below_drewN | apply below_drew1) | exact HB.out)))); have n6_ := Aside0.mk (below_step (by repeat (first | (with_reducible first | exact HB.out | apply below_alloc | apply pw_below_drewN | apply below_drew1) | exact HB.out)) hb); clear HO289; clear HO292; clear HO296; clear HO300; clear HO304; clear HB; have HO289 := n0_; have HO292 := n1_; have HO296 := n2_; have HO300 := n3_; have HO304 := n4_; have HO308 := n5_; have HB := n6_; clear n0_ n1_ n2_ n3_ n4_ n5_ n6_; (try clear hb); (try clear hb2); (try clear hk); (try clear hi); (try clear ho0)) | ((with_reducible refine gate_callee (f := 11) rfl ?_); refine goesL_ (some 58) rfl rfl Try.func11 (by kernel_rfl) rfl #[.slice Ao35 t290.length co35] rfl (by (try simp only [List.map_toArray, List.map_cons, List.map_nil]); first | done | rfl | (simp only [List.length_drop, List.length_take]; rfl)) ?_; (with_reducible refine (hunk_Check.calls kj4 _ _ t290 t309 _ ?side1 ?side2 A16.out).mono ?_); (case side1 => repeat (first | exact (Kd.S_reads' HO292.out).2.2 | (with_reducible refine Kd.C_alloc ?_ _) | (with_reducible refine Kd.C_drewN ?_ _) | (with_reducible refine Kd.C_drew ?_))); (case side2 => exact (Kd.S_reads' HO292.out).2.1); rintro e w38 ⟨rfl, hb⟩; refine ⟨_, rfl, ?_⟩; have n0_ := Aside0.mk (Kd.R_below (by (with_reducible repeat (first | apply Kd.R_alloc | apply Kd.R_drewN | apply Kd.R_drew)); exact HO289.out) hb); have n1_ := Aside0.mk (Kd.S_below (by (with_reducible repeat (first | apply Kd.S_alloc | apply Kd.S_drewN | apply Kd.S_drew)); exact HO292.out) hb); have n2_ := Aside0.mk (Kd.S_below (by (with_reducible repeat (first | apply Kd.S_alloc | apply Kd.S_drewN | apply Kd.S_drew)); exact HO296.out) hb); have n3_ := Aside0.mk (Kd.S_below (by (with_reducible repeat (first | apply Kd.S_alloc | apply Kd.S_drewN | apply Kd.S_drew)); exact HO300.out) hb); have n4_ := Aside0.mk (Kd.S_below (by (with_reducible repeat (first | apply Kd.S_alloc | apply Kd.S_drewN | apply Kd.S_drew)); exact HO304.out) hb); have n5_ := Aside0.mk (Kd.S_below (by (with_reducible repeat (first | apply Kd.S_alloc | apply Kd.S_drewN | apply Kd.S_drew)); exact HO308.out) hb); have n6_ := Aside0.mk (below_step (by repeat (first | (with_reducible first | exact HB.out | apply below_alloc | apply pw_below_drewN | apply below_drew1) | exact HB.out)) hb); clear HO289; clear HO292; clear HO296; clear HO300; clear HO304; clear HO308; clear HB; have HO289 := n0_; have HO292 := n1_; have HO296 := n2_; have HO300 := n3_; have HO304 := n4_; have HO308 := n5_; have HB := n6_; clear n0_ n1_ n2_ n3_ n4_ n5_ n6_; (try clear hb); (try clear hb2); (try clear hk); (try clear hi)) | ((with_reducible refine gate_callee (f := 12) rfl ?_); refine goesL_ (some 60) rfl rfl Try.func12 (by kernel_rfl) rfl #[.slice A2 l2.length c2] rfl (by (try simp only [List.map_toArray, List.map_cons, List.map_nil]); first | done | rfl | (simp only [List.length_drop, List.length_take]; rfl)) ?_; (with_reducible refine (sidingref15_Check.calls kj4 _ _ l2 t310 _ ?side1 ?side2 A17.out).mono ?_); (case side1 => repeat (first | exact (Kd.C_below HR2.out HB.out) | (with_reducible refine Kd.C_alloc ?_ _) | (with_reducible refine Kd.C_drewN ?_ _) | (with_reducible refine Kd.C_drew ?_))); (case side2 => exact HC2.out); rintro e w39 ⟨rfl, hb⟩; refine ⟨_, rfl, ?_⟩; have n0_ := Aside0.mk (Kd.R_below (by (with_reducible repeat (first | apply Kd.R_alloc | apply Kd.R_drewN | apply Kd.R_drew)); exact HO289.out) hb); have n1_ := Aside0.mk (Kd.S_below (by (with_reducible repeat (first | apply Kd.S_alloc | apply Kd.S_drewN | apply Kd.S_drew)); exact HO292.out) hb); have n2_ := Aside0.mk (Kd.S_below (by (with_reducible repeat (first | apply Kd.S_alloc | apply Kd.S_drewN | apply Kd.S_drew)); exact HO296.out) hb); have n3_ := Aside0.mk (Kd.S_below (by (with_reducible repeat (first | apply Kd.S_alloc | apply Kd.S_drewN | apply Kd.S_drew)); exact HO300.out) hb); have n4_ := Aside0.mk (Kd.S_below (by (with_reducible repeat (first | apply Kd.S_alloc | apply Kd.S_drewN | apply Kd.S_drew)); exact HO304.out) hb); have n5_ := Aside0.mk (Kd.S_below (by (with_reducible repeat (first | apply Kd.S_alloc | apply Kd.S_drewN | apply Kd.S_drew)); exact HO308.out) hb); have n6_ := Aside0.mk (below_step (by repeat (first | (with_reducible first | exact HB.out | apply below_alloc | apply pw_below_drewN | apply below_drew1) | exact HB.out)) hb); clear HO289; clear HO292; clear HO296; clear HO300; clear HO304; clear HO308; clear HB; have HO289 := n0_; have HO292 := n1_; have HO296 := n2_; have HO300 := n3_; have HO304 := n4_; have HO308 := n5_; have HB := n6_; clear n0_ n1_ n2_ n3_ n4_ n5_ n6_; (try clear hb); (try clear hb2); (try clear hk); (try clear hi); obtain ⟨Ao40, co40, eo40⟩ := Kd.S_slice HO296.out; subst eo40; obtain ⟨Ao41, co41, eo41⟩ := Kd.S_slice HO300.out; subst eo41) | (go_at_call 13; (with_reducible refine (sidingref15_Same.calls kj4 _ _ t293 _ _ t297 true _ ?side1 ?side2 ?side3 ?side4 A19.out ⟨rfl⟩).mono ?_); (case side1 => repeat (first | exact (Kd.S_reads' HO296.out).2.2 | (with_reducible refine Kd.C_alloc ?_ _) | (with_reducible refine Kd.C_drewN ?_ _) | (with_reducible refine Kd.C_drew ?_))); (case side2 => exact (Kd.S_reads' HO296.out).2.1); (case side3 => repeat (first | exact (Kd.S_reads' HO300.out).2.2 | (with_reducible refine Kd.C_alloc ?_ _) | (with_reducible refine Kd.C_drewN ?_ _) | (with_reducible refine Kd.C_drew ?_))); (case side4 => exact (Kd.S_reads' HO300.out).2.1); rintro e w42 ⟨rfl, hb⟩; have n0_ := Aside0.mk (Kd.R_below (by (with_reducible repeat (first | apply Kd.R_alloc | apply Kd.R_drewN | apply Kd.R_drew)); exact HO289.out) hb); have n1_ := Aside0.mk (Kd.S_below (by (with_reducible repeat (first | apply Kd.S_alloc | apply Kd.S_drewN | apply Kd.S_drew)); exact HO292.out) hb); have n2_ := Aside0.mk (Kd.S_below (by (with_reducible repeat (first | apply Kd.S_alloc | apply Kd.S_drewN | apply Kd.S_drew)); exact HO296.out) hb); have n3_ := Aside0.mk (Kd.S_below (by (with_reducible repeat (first | apply Kd.S_alloc | apply Kd.S_drewN | apply Kd.S_drew)); exact HO300.out) hb); have n4_ := Aside0.mk (Kd.S_below (by (with_reducible repeat (first | apply Kd.S_alloc | apply Kd.S_drewN | apply Kd.S_drew)); exact HO304.out) hb); have n5_ := Aside0.mk (Kd.S_below (by (with_reducible repeat (first | apply Kd.S_alloc | apply Kd.S_drewN | apply Kd.S_drew)); exact HO308.out) hb); have n6_ := Aside0.mk (below_step (by repeat (first | (with_reducible first | exact HB.out | apply below_alloc | apply pw_below_drewN | apply below_drew1) | exact HB.out)) hb); clear HO289; clear HO292; clear HO296; clear HO300; clear HO304; clear HO308; clear HB; have HO289 := n0_; have HO292 := n1_; have HO296 := n2_; have HO300 := n3_; have HO304 := n4_; have HO308 := n5_; have HB := n6_; clear n0_ n1_ n2_ n3_ n4_ n5_ n6_; (try clear hb); (try clear hb2); (try clear hk); (try clear hi); obtain ⟨Ao43, co43, eo43⟩ := Kd.S_slice HO304.out; subst eo43; obtain ⟨Ao44, co44, eo44⟩ := Kd.S_slice HO308.out; subst eo44) | (go_at_call 13; (with_reducible refine (sidingref15_Same.calls kj4 _ _ t301 _ _ t305 true _ ?side1 ?side2 ?side3 ?side4 A22.out ⟨rfl⟩).mono ?_); (case side1 => repeat (first | exact (Kd.S_reads' HO304.out).2.2 | (with_reducible refine Kd.C_alloc ?_ _) | (with_reducible refine Kd.C_drewN ?_ _) | (with_reducible refine Kd.C_drew ?_))); (case side2 => exact (Kd.S_reads' HO304.out).2.1); (case side3 => repeat (first | exact (Kd.S_reads' HO308.out).2.2 | (with_reducible refine Kd.C_alloc ?_ _) | (with_reducible refine Kd.C_drewN ?_ _) | (with_reducible refine Kd.C_drew ?_))); (case side4 => exact (Kd.S_reads' HO308.out).2.1); rintro e w45 ⟨rfl, hb⟩; have n0_ := Aside0.mk (Kd.R_below (by (with_reducible repeat (first | apply Kd.R_alloc | apply Kd.R_drewN | apply Kd.R_drew)); exact HO289.out) hb); have n1_ := Aside0.mk (Kd.S_below (by (with_reducible repeat (first | apply Kd.S_alloc | apply Kd.S_drewN | apply Kd.S_drew)); exact HO292.out) hb); have n2_ := Aside0.mk (Kd.S_below (by (with_reducible repeat (first | apply Kd.S_alloc | apply Kd.S_drewN | apply Kd.S_drew)); exact HO296.out) hb); have n3_ := Aside0.mk (Kd.S_below (by (with_reducible repeat (first | apply Kd.S_alloc | apply Kd.S_drewN | apply Kd.S_drew)); exact HO300.out) hb); have n4_ := Aside0.mk (Kd.S_below (by (with_reducible repeat (first | apply Kd.S_alloc | apply Kd.S_drewN | apply Kd.S_drew)); exact HO304.out) hb); have n5_ := Aside0.mk (Kd.S_below (by (with_reducible repeat (first | apply Kd.S_alloc | apply Kd.S_drewN | apply Kd.S_drew)); exact HO308.out) hb); have n6_ := Aside0.mk (below_step (by repeat (first | (with_reducible first | exact HB.out | apply below_alloc | apply pw_below_drewN | apply below_drew1) | exact HB.out)) hb); clear HO289; clear HO292; clear HO296; clear HO300; clear HO304; clear HO308; clear HB; have HO289 := n0_; have HO292 := n1_; have HO296 := n2_; have HO300 := n3_; have HO304 := n4_; have HO308 := n5_; have HB := n6_; clear n0_ n1_ n2_ n3_ n4_ n5_ n6_; (try clear hb); (try clear hb2); (try clear hk); (try clear hi)) | (go_at_call 14; (with_reducible refine (sidingref13_Same.calls kj4 _ _ y287 _ _ l0 true _ ?side1 ?side2 ?side3 ?side4 A25.out).mono ?_); (case side1 => repeat (first | exact (Kd.R_reads' HO289.out).2.2 | (with_reducible refine Kd.C_alloc ?_ _) | (with_reducible refine Kd.C_drewN ?_ _) | (with_reducible refine Kd.C_drew ?_))); (case side2 => exact (Kd.R_reads' HO289.out).2.1); (case side3 => repeat (first | exact (Kd.C_below HR0.out HB.out) | (with_reducible refine Kd.C_alloc ?_ _) | (with_reducible refine Kd.C_drewN ?_ _) | (with_reducible refine Kd.C_drew ?_))); (case side4 => exact HC0.out); rintro e w' ⟨rfl, ⟨nd, rfl⟩⟩) | (go_at_call 13; (with_reducible refine (sidingref15_Same.calls kj4 _ _ t290 _ _ l2 t314 _ ?side1 ?side2 ?side3 ?side4 A27.out hr_).mono ?_); (case side1 => repeat (first | exact (Kd.S_reads' HO292.out).2.2 | (with_reducible refine Kd.C_alloc ?_ _) | (with_reducible refine Kd.C_drewN ?_ _) | (with_reducible refine Kd.C_drew ?_))); (case side2 => exact (Kd.S_reads' HO292.out).2.1); (case side3 => repeat (first | exact (Kd.C_below HR2.out (by repeat (first | (with_reducible first | exact HB.out | apply below_alloc | apply pw_below_drewN | apply below_drew1) | exact HB.out))) | (with_reducible refine Kd.C_alloc ?_ _) | (with_reducible refine Kd.C_drewN ?_ _) | (with_reducible refine Kd.C_drew ?_))); (case side4 => exact HC2.out); rintro e w46 ⟨rfl, hb⟩; have n0_ := Aside0.mk (Kd.R_below (by (with_reducible repeat (first | apply Kd.R_alloc | apply Kd.R_drewN | apply Kd.R_drew)); exact HO289.out) hb); have n1_ := Aside0.mk (Kd.S_below (by (with_reducible repeat (first | apply Kd.S_alloc | apply Kd.S_drewN | apply Kd.S_drew)); exact HO292.out) hb); have n2_ := Aside0.mk (Kd.S_below (by (with_reducible repeat (first | apply Kd.S_alloc | apply Kd.S_drewN | apply Kd.S_drew)); exact HO296.out) hb); have n3_ := Aside0.mk (Kd.S_below (by (with_reducible repeat (first | apply Kd.S_alloc | apply Kd.S_drewN | apply Kd.S_drew)); exact HO300.out) hb); have n4_ := Aside0.mk (Kd.S_below (by (with_reducible repeat (first | apply Kd.S_alloc | apply Kd.S_drewN | apply Kd.S_drew)); exact HO304.out) hb); have n5_ := Aside0.mk (Kd.S_below (by (with_reducible repeat (first | apply Kd.S_alloc | apply Kd.S_drewN | apply Kd.S_drew)); exact HO308.out) hb); have n6_ := Aside0.mk (below_step (by repeat (first | (with_reducible first | exact HB.out | apply below_alloc | apply pw_below_drewN | apply below_drew1) | exact HB.out)) hb); clear HO289; clear HO292; clear HO296; clear HO300; clear HO304; clear HO308; clear HB; have HO289 := n0_; have HO292 := n1_; have HO296 := n2_; have HO300 := n3_; have HO304 := n4_; have HO308 := n5_; have HB := n6_; clear n0_ n1_ n2_ n3_ n4_ n5_ n6_; (try clear hb); (try clear hb2); (try clear hk); (try clear hi)))
           go_ret
           (try rw [sameA22])
           (try rw [sameA27])
           exact ⟨by first | rfl | (simp [errW_none, errW_some] <;> rfl) | (simp [*, errW_none, errW_some] <;> rfl), by repeat (first | (with_reducible first | exact HB.out | apply below_alloc | apply pw_below_drewN | apply below_drew1) | exact HB.out)⟩
          ·replace c26 := Bool.eq_false_iff.mpr c26
           subst c26
           have H1 : (some false) = some r := by rw [if_neg (show ¬ (false = true) by decide)] at H; exact H
           clear H
           have H := H1
           clear H1
           exact absurd ((Option.some.inj H).trans hr_.out) (by decide)
         ·rw [if_neg c24] at H
          have c24b0 : (t302 == t306) = false := beq_eq_false_iff_ne.mpr c24
          have c24b1 : (t302 != t306) = true := bne_iff_ne.mpr c24
          exact absurd ((Option.some.inj H).trans hr_.out) (by decide)
        ·replace c23 := Bool.eq_false_iff.mpr c23
         subst c23
         have H1 : (some false) = some r := by rw [if_neg (show ¬ (false = true) by decide)] at H; exact H
         clear H
         have H := H1
         clear H1
         exact absurd ((Option.some.inj H).trans hr_.out) (by decide)
       ·rw [if_neg c21] at H
        have c21b0 : (t294 == t298) = false := beq_eq_false_iff_ne.mpr c21
        have c21b1 : (t294 != t298) = true := bne_iff_ne.mpr c21
        exact absurd ((Option.some.inj H).trans hr_.out) (by decide)
      ·replace c20 := Bool.eq_false_iff.mpr c20
       subst c20
       have H1 : (some false) = some r := by rw [if_neg (show ¬ (false = true) by decide)] at H; exact H
       clear H
       have H := H1
       clear H1
       exact absurd ((Option.some.inj H).trans hr_.out) (by decide)
     ·rw [if_neg c18] at H
      have c18b0 : (t309 == t310) = false := beq_eq_false_iff_ne.mpr c18
      have c18b1 : (t309 != t310) = true := bne_iff_ne.mpr c18
      exact absurd ((Option.some.inj H).trans hr_.out) (by decide)
    ·rw [if_neg c10] at H
     exact absurd H (by simp)
def sidinglaw15_HunkDiffs.Pure : Prop := ∀ (l0 : List ByteArray) (l1 : List ByteArray) (l2 : List (S40)) (a3 : Int), (l0.length * 16 ≤ 140737488351232 ∧ ∀ x0_ ∈ l0, x0_.size ≤ 140737488351232) → (l1.length * 16 ≤ 140737488351232 ∧ ∀ x0_ ∈ l1, x0_.size ≤ 140737488351232) → (l2.length * 56 ≤ 140737488351232 ∧ ∀ x0_ ∈ l2, ((Lit.int .i64 x0_.f0).wf = true) ∧ (x0_.f1.length * 16 ≤ 140737488351232 ∧ ∀ x1_ ∈ x0_.f1, x1_.size ≤ 140737488351232) ∧ (x0_.f2.length * 16 ≤ 140737488351232 ∧ ∀ x1_ ∈ x0_.f2, x1_.size ≤ 140737488351232)) → ((Lit.int .i64 a3).wf = true) → ∃ k, sidinglaw15_HunkDiffs.f k l0 l1 l2 a3 = some true
theorem sidinglaw15_HunkDiffs.walk (P : sidinglaw15_HunkDiffs.Pure) (A0 : Option Addr) (c0 : Nat) (l0 : List ByteArray) (A1 : Option Addr) (c1 : Nat) (l1 : List ByteArray) (A2 : Option Addr) (c2 : Nat) (l2 : List (S40)) (a3 : Int) (w : World) (hr0 : Kd.C Kd.string w A0 l0.length l0) (hc0 : l0.length ≤ c0) (hr1 : Kd.C Kd.string w A1 l1.length l1) (hc1 : l1.length ≤ c1) (hr2 : Kd.C k40 w A2 l2.length l2) (hc2 : l2.length ≤ c2) (hw0 : l0.length * 16 ≤ 140737488351232 ∧ ∀ x0_ ∈ l0, x0_.size ≤ 140737488351232) (hw1 : l1.length * 16 ≤ 140737488351232 ∧ ∀ x0_ ∈ l1, x0_.size ≤ 140737488351232) (hw2 : l2.length * 56 ≤ 140737488351232 ∧ ∀ x0_ ∈ l2, ((Lit.int .i64 x0_.f0).wf = true) ∧ (x0_.f1.length * 16 ≤ 140737488351232 ∧ ∀ x1_ ∈ x0_.f1, x1_.size ≤ 140737488351232) ∧ (x0_.f2.length * 16 ≤ 140737488351232 ∧ ∀ x1_ ∈ x0_.f2, x1_.size ≤ 140737488351232)) (hw3 : (Lit.int .i64 a3).wf = true) :
  Calls Try.prog 3 #[.slice A0 l0.length c0, .slice A1 l1.length c1, .slice A2 l2.length c2, .int .i64 a3] w fun e w' => e = .returned (.bool true) ∧ Below w.heap.size w w' := by
 obtain ⟨k, h⟩ := P l0 l1 l2 a3 hw0 hw1 hw2 hw3
 refine (sidinglaw15_HunkDiffs.calls k A0 c0 l0 A1 c1 l1 A2 c2 l2 a3 true w hr0 hc0 hr1 hc1 hr2 hc2 h ⟨rfl⟩).mono ?_
 rintro e w' ⟨rfl, hd⟩
 exact ⟨rfl, hd⟩
end Go.Proofs.Ytmgbbmjfjnhmiaa.Pr
end
section
namespace Go.Proofs.Ytmgbbmjfjnhmiaa.Pr
open Go.RowKit Go.Proofs.YtmgbbmjfjnhmiaaW.PrintWords Go.Proofs.YtmgbbmjfjnhmiaaW.PrintLast Go.Proofs.YtmgbbmjfjnhmiaaW.PrintMore
theorem rd_h (l : List S40) (i : Nat) (h : i < l.length) : rd_T40 l (i : Int) = l[i] := by simp [rd_T40, h]
def plainL (l : List ByteArray) : Bool := decide (l.length ≤ 60) && !l.any widey
theorem plain_val (l : List ByteArray) : hunk_plain.f l = some (plainL l) := rfl
theorem any_wide (l : List ByteArray) : l.any widey = (l.any (fun s => decide (2000 < s.size)) || l.any feedy) := by
 induction l with
 | nil => rfl
 | cons s l ih =>
  simp only [List.any_cons, ih, widey]
  cases decide (2000 < s.size) <;> cases feedy s <;> cases l.any (fun s => decide (2000 < s.size)) <;> rfl
def validH (h : S40) : Bool := decide (0 ≤ h.f0) && decide (h.f0 ≤ 60) && plainL h.f1 && plainL h.f2 && decide (0 < h.f1.length + h.f2.length)
theorem validH_true {h : S40} (hv : validH h = true) : 0 ≤ h.f0 ∧ h.f0 ≤ 60 ∧ plainL h.f1 = true ∧ plainL h.f2 = true ∧ h.f1.length ≤ 60 ∧ h.f2.length ≤ 60 ∧ 0 < h.f1.length + h.f2.length := by
 simp only [validH, Bool.and_eq_true, decide_eq_true_eq] at hv
 obtain ⟨⟨⟨⟨h1, h2⟩, h3⟩, h4⟩, h5⟩ := hv
 refine ⟨h1, h2, h3, h4, ?_, ?_, h5⟩
 ·simp only [plainL, Bool.and_eq_true, decide_eq_true_eq] at h3
  exact h3.1
 ·simp only [plainL, Bool.and_eq_true, decide_eq_true_eq] at h4
  exact h4.1
theorem plainL_len {l : List ByteArray} (h : plainL l = true) : l.length ≤ 60 := by
 simp only [plainL, Bool.and_eq_true, decide_eq_true_eq] at h
 exact h.1
theorem valid_val (h : S40) : hunk_valid.f h.f0 h.f1 h.f2 = some (validH h) := by
 unfold hunk_valid.f validH
 rw [plain_val, plain_val]
 by_cases h1 : h.f0 ≥ 0
 ·by_cases h2 : h.f0 ≤ 60
  ·rw [if_pos h1, if_pos h2, decide_eq_true (show 0 ≤ h.f0 from h1), decide_eq_true h2]
   cases h3 : plainL h.f1 with
   | false => rfl
   | true =>
    cases h4 : plainL h.f2 with
    | false => rfl
    | true =>
     have := plainL_len h3
     have := plainL_len h4
     simp only [Option.bind_some, if_true, Bool.true_and, Option.some.injEq]
     rw [w64 (by omega), Bool.eq_iff_iff, decide_eq_true_iff, decide_eq_true_iff]
     omega
  ·rw [if_pos h1, if_neg h2, decide_eq_false h2, Bool.and_false]
   simp
 ·rw [if_neg h1, decide_eq_false (show ¬ 0 ≤ h.f0 from h1)]
  simp
def tinyH (h : S40) : Prop := tiny h.f1 ∧ tiny h.f2 ∧ h.f1.length ≤ 1000000 ∧ h.f2.length ≤ 1000000
def chkFrom : Int → List S40 → Int
 | _, [] => 0
 | free, h :: l => if validH h = true then (if h.f0 < free then 8 else chkFrom (h.f0 + (h.f1.length : Int) + 1) l) else 8
theorem chk_cons {free : Int} {h : S40} {l : List S40} (hc : chkFrom free (h :: l) = 0) : validH h = true ∧ free ≤ h.f0 ∧ chkFrom (h.f0 + (h.f1.length : Int) + 1) l = 0 := by
 unfold chkFrom at hc
 split at hc
 ·rename_i hv
  split at hc
  ·cases hc
  ·exact ⟨hv, by omega, hc⟩
 ·cases hc
def checkL (l : List S40) : Int := if 40 < l.length then 4 else chkFrom 0 l
theorem checkL_zero {l : List S40} (h : checkL l = 0) : l.length ≤ 40 ∧ chkFrom 0 l = 0 := by
 unfold checkL at h
 split at h
 ·cases h
 ·exact ⟨by omega, h⟩
theorem chk_valid : ∀ {l : List S40} {free : Int}, chkFrom free l = 0 → ∀ h ∈ l, validH h = true
 | [], _, _, _, hm => by cases hm
 | x :: l, free, hc, h, hm => by
  obtain ⟨h1, _, h3⟩ := chk_cons hc
  rcases List.mem_cons.1 hm with rfl | hm
  ·exact h1
  ·exact chk_valid h3 h hm
theorem hcheck_loop (l : List S40) (hl : l.length ≤ 40) : ∀ (d i : Nat) (free : Int), i + d = l.length →
  Ev (fun k => hunk_Check.l0 k free l (l.length : Int) (i : Int)) (chkFrom free (l.drop i)) := by
 intro d
 induction d with
 | zero =>
  intro i free hi
  obtain rfl : i = l.length := by omega
  refine Ev.step (fun k => by rw [hunk_Check.l0]) ?_
  refine Ev.neg (by omega) (Ev.rt ?_)
  rw [List.drop_length]
  rfl
 | succ d ih =>
  intro i free hi
  have h : i < l.length := by omega
  refine Ev.step (fun k => by rw [hunk_Check.l0]) ?_
  refine Ev.pos (by omega) (Ev.pos (by omega) (Ev.pos (by omega) ?_))
  rw [rd_h _ _ h, drop_at l i h, valid_val]
  refine Ev.bs ?_
  unfold chkFrom
  cases hv : validH l[i] with
  | false => exact Ev.neg (by decide) (Ev.rt (by simp))
  | true =>
   obtain ⟨v1, v2, _, _, v3, v4, _⟩ := validH_true hv
   refine Ev.pos rfl ?_
   rw [if_pos rfl]
   by_cases hf : l[i].f0 < free
   ·exact Ev.pos hf (Ev.rt (by rw [if_pos hf]))
   ·refine Ev.neg hf ?_
    rw [if_neg hf, w64 (x := l[i].f0 + (l[i].f1.length : Int)) (by omega), w64 (by omega), w64 (by omega)]
    exact ih (i + 1) _ (by omega)
theorem hcheck_ev (l : List S40) : Ev (fun k => hunk_Check.f k l) (checkL l) := by
 unfold hunk_Check.f checkL
 by_cases h : 40 < l.length
 ·exact Ev.pos (by omega) (Ev.rt (by rw [if_pos h]))
 ·refine Ev.neg (by omega) ?_
  rw [if_neg h]
  exact hcheck_loop l (by omega) l.length 0 0 (by omega)
def fitsAt (a : List ByteArray) (h : S40) : Bool := decide (h.f0 + (h.f1.length : Int) ≤ (a.length : Int)) && decide ((a.take (h.f0 + (h.f1.length : Int)).toNat).drop h.f0.toNat = h.f1)
def fitsL (a : List ByteArray) (l : List S40) : Bool := l.all (fitsAt a)
instance decH : DecidableEq S40 := fun x y => decidable_of_iff (x.f0 = y.f0 ∧ x.f1 = y.f1 ∧ x.f2 = y.f2) (by cases x; cases y; simp)
def hlong (l : List S40) : Bool := (l.take 61).any (fun h => longOf h.f1 || longOf h.f2) || decide (60 < l.length)
theorem hlong_false {l : List S40} (h : hlong l = false) : l.length ≤ 60 ∧ ∀ x ∈ l, longOf x.f1 = false ∧ longOf x.f2 = false := by
 unfold hlong at h
 rw [Bool.or_eq_false_iff] at h
 obtain ⟨h1, h2⟩ := h
 have hl : l.length ≤ 60 := by simpa using h2
 rw [List.take_of_length_le (by omega), List.any_eq_false] at h1
 exact ⟨hl, fun x hx => by simpa using h1 x hx⟩
theorem hlong_tiny {l : List S40} (h : hlong l = false) : ∀ x ∈ l, tinyH x := fun x hx => by
 obtain ⟨h1, h2⟩ := (hlong_false h).2 x hx
 obtain ⟨a1, a2⟩ := longOf_tiny h1
 obtain ⟨b1, b2⟩ := longOf_tiny h2
 exact ⟨a2, b2, by omega, by omega⟩
end Go.Proofs.Ytmgbbmjfjnhmiaa.Pr
end
section
namespace Go.Proofs.Ytmgbbmjfjnhmiaa.Pr
open Go.RowKit Go.Proofs.YtmgbbmjfjnhmiaaW.PrintWords Go.Proofs.YtmgbbmjfjnhmiaaW.PrintLast Go.Proofs.YtmgbbmjfjnhmiaaW.PrintMore
theorem sequal_loop (a b : List ByteArray) (hl : a.length = b.length) (hb : a.length ≤ 9000000000000000000) : ∀ (d i : Nat), i + d = a.length → Ev (fun k => slices_Equal_string_string.l0 k a b (a.length : Int) (i : Int)) (decide (a.drop i = b.drop i)) := by
 intro d
 induction d with
 | zero =>
  intro i hi
  refine Ev.step (fun k => by rw [slices_Equal_string_string.l0]) ?_
  refine Ev.neg (by omega) (Ev.rt ?_)
  rw [List.drop_eq_nil_of_le (by omega), List.drop_eq_nil_of_le (by omega)]
  simp
 | succ d ih =>
  intro i hi
  have h1 : i < a.length := by omega
  have h2 : i < b.length := by omega
  refine Ev.step (fun k => by rw [slices_Equal_string_string.l0]) ?_
  refine Ev.pos (by omega) (Ev.pos (by omega) (Ev.pos (by omega) (Ev.pos (by omega) ?_)))
  rw [rdOf_at _ _ _ h1, rdOf_at _ _ _ h2, drop_at a i h1, drop_at b i h2]
  by_cases h : a[i] = b[i]
  ·refine Ev.pos (by rw [h]) ?_
   rw [w64 (by omega)]
   refine Ev.eq ?_ (ih (i + 1) (by omega))
   rw [Bool.eq_iff_iff, decide_eq_true_iff, decide_eq_true_iff, h, List.cons.injEq]
   simp
  ·refine Ev.neg (fun e => h (toList_inj.1 e)) (Ev.rt ?_)
   symm
   rw [decide_eq_false_iff_not, List.cons.injEq]
   exact fun e => h e.1
theorem sequal_ev (a b : List ByteArray) (hb : a.length ≤ 9000000000000000000) : Ev (fun k => slices_Equal_string_string.f k a b) (decide (a = b)) := by
 unfold slices_Equal_string_string.f
 by_cases h : a.length = b.length
 ·have := sequal_loop a b h hb a.length 0 (by omega)
  rw [List.drop_zero, List.drop_zero] at this
  exact Ev.pos (by omega) this
 ·refine Ev.neg (by omega) (Ev.rt ?_)
  rw [decide_eq_false]
  intro e
  exact h (by rw [e])
end Go.Proofs.Ytmgbbmjfjnhmiaa.Pr
end
section
namespace Go.Proofs.Ytmgbbmjfjnhmiaa.Pr
open Go.RowKit Go.Proofs.YtmgbbmjfjnhmiaaW.PrintWords Go.Proofs.YtmgbbmjfjnhmiaaW.PrintLast Go.Proofs.YtmgbbmjfjnhmiaaW.PrintMore
theorem fits_loop (a : List ByteArray) (l : List S40) (ha : a.length ≤ 1000000) (hl : l.length ≤ 1000000) (hv : ∀ h ∈ l, 0 ≤ h.f0 ∧ h.f0 ≤ 1000000 ∧ h.f1.length ≤ 1000000) : ∀ (d i : Nat), i + d = l.length →
  Ev (fun k => sidingref15_Fits.l0 k a l (i : Int)) (fitsL a (l.drop i)) := by
 intro d
 induction d with
 | zero =>
  intro i hi
  obtain rfl : i = l.length := by omega
  refine Ev.step (fun k => by rw [sidingref15_Fits.l0]) ?_
  refine Ev.neg (by omega) (Ev.rt ?_)
  rw [List.drop_length]
  rfl
 | succ d ih =>
  intro i hi
  have h : i < l.length := by omega
  obtain ⟨v1, v2, v3⟩ := hv _ (List.getElem_mem h)
  refine Ev.step (fun k => by rw [sidingref15_Fits.l0]) ?_
  refine Ev.pos (by omega) (Ev.pos (by omega) ?_)
  rw [rd_h _ _ h, drop_at l i h, w64 (x := l[i].f0 + (l[i].f1.length : Int)) (by omega)]
  unfold fitsL
  rw [List.all_cons]
  unfold fitsAt
  by_cases hf : l[i].f0 + (l[i].f1.length : Int) ≤ (a.length : Int)
  ·refine Ev.neg (by omega) (Ev.pos v1 (Ev.pos (by omega) (Ev.pos hf (Ev.bd (same_ev _ _ (by rw [List.length_drop, List.length_take]; omega)) ?_))))
   rw [decide_eq_true hf, Bool.true_and]
   by_cases hs : (a.take (l[i].f0 + (l[i].f1.length : Int)).toNat).drop l[i].f0.toNat = l[i].f1
   ·rw [decide_eq_true hs, Bool.true_and]
    refine Ev.pos rfl ?_
    rw [w64 (by omega)]
    exact ih (i + 1) (by omega)
   ·rw [decide_eq_false hs]
    exact Ev.neg (by decide) (Ev.rt rfl)
  ·refine Ev.pos (by omega) (Ev.rt ?_)
   rw [decide_eq_false hf]
   rfl
theorem fits_ev (a : List ByteArray) (l : List S40) (ha : a.length ≤ 1000000) (hl : l.length ≤ 1000000) (hv : ∀ h ∈ l, 0 ≤ h.f0 ∧ h.f0 ≤ 1000000 ∧ h.f1.length ≤ 1000000) : Ev (fun k => sidingref15_Fits.f k a l) (fitsL a l) := by
 have h := fits_loop a l ha hl hv l.length 0 (by omega)
 rw [List.drop_zero] at h
 exact h
end Go.Proofs.Ytmgbbmjfjnhmiaa.Pr
end
section
namespace Go.Proofs.Ytmgbbmjfjnhmiaa.Pr
open Go.RowKit Go.Proofs.YtmgbbmjfjnhmiaaW.PrintWords Go.Proofs.YtmgbbmjfjnhmiaaW.PrintLast Go.Proofs.YtmgbbmjfjnhmiaaW.PrintMore
theorem cut_join (a : List ByteArray) {x y z : Int} (hxy : x ≤ y) (hyz : y ≤ z) : widen.cut a x y ++ widen.cut a y z = widen.cut a x z := by
 unfold widen.cut
 have h1 : x.toNat ≤ y.toNat := by omega
 have h2 : y.toNat ≤ z.toNat := by omega
 have h3 := List.take_append_drop (y.toNat - x.toNat) ((a.take z.toNat).drop x.toNat)
 rw [List.drop_drop, show x.toNat + (y.toNat - x.toNat) = y.toNat by omega, List.take_drop, List.take_take, show min (x.toNat + (y.toNat - x.toNat)) z.toNat = y.toNat by omega] at h3
 exact h3
theorem cut_len (a : List ByteArray) (x y : Int) : (widen.cut a x y).length ≤ a.length := by
 unfold widen.cut
 rw [List.length_drop, List.length_take]
 omega
def wend (h : S40) : Int := h.f0 + (h.f1.length : Int)
def grp (a : List ByteArray) (n : Int) : Int → List ByteArray → Int → List S40 → List S40
 | fr, N, e, [] => [⟨fr, widen.cut a fr (min (a.length : Int) (e + n)), N ++ widen.cut a e (min (a.length : Int) (e + n))⟩]
 | fr, N, e, h :: t => if 0 < n ∧ h.f0 - n ≤ e + n then grp a n fr (N ++ widen.cut a e h.f0 ++ h.f2) (wend h) t
   else ⟨fr, widen.cut a fr (min (a.length : Int) (e + n)), N ++ widen.cut a e (min (a.length : Int) (e + n))⟩ :: grp a n (max 0 (h.f0 - n)) (widen.cut a (max 0 (h.f0 - n)) h.f0 ++ h.f2) (wend h) t
def widL (a : List ByteArray) (n : Int) : List S40 → List S40
 | [] => []
 | h :: t => grp a n (max 0 (h.f0 - n)) (widen.cut a (max 0 (h.f0 - n)) h.f0 ++ h.f2) (wend h) t
def wtill (a : List ByteArray) (n e : Int) : List S40 → Int
 | [] => min (a.length : Int) (e + n)
 | x :: _ => min (min (a.length : Int) (e + n)) x.f0
theorem wtill_eq (a : List ByteArray) (n : Int) (h : S40) (t : List S40) : widen.till a n h t = wtill a n (wend h) t := by cases t <;> rfl
theorem fits_cons {a : List ByteArray} {h : S40} {t : List S40} (hf : fitsL a (h :: t) = true) : wend h ≤ (a.length : Int) ∧ widen.cut a h.f0 (wend h) = h.f1 ∧ fitsL a t = true := by
 unfold fitsL at hf
 rw [List.all_cons, Bool.and_eq_true] at hf
 have h1 := hf.1
 unfold fitsAt at h1
 rw [Bool.and_eq_true] at h1
 exact ⟨of_decide_eq_true h1.1, of_decide_eq_true h1.2, hf.2⟩
theorem wtill_le {a : List ByteArray} {n e : Int} {t : List S40} (hn : 0 ≤ n) (he : e ≤ (a.length : Int)) (hc : chkFrom (e + 1) t = 0) : e ≤ wtill a n e t ∧ wtill a n e t ≤ (a.length : Int) := by
 cases t with
 | nil =>
  show e ≤ min (a.length : Int) (e + n) ∧ min (a.length : Int) (e + n) ≤ (a.length : Int)
  omega
 | cons x t =>
  have h1 := (chk_cons hc).2.1
  show e ≤ min (min (a.length : Int) (e + n)) x.f0 ∧ min (min (a.length : Int) (e + n)) x.f0 ≤ (a.length : Int)
  omega
theorem go_fresh {a : List ByteArray} {n : Int} {i : Nat} {h : S40} {t : List S40} {e : Int} {out : List S40} {cur : Option S40} (hn : 0 ≤ n) (hA : a.length ≤ 1000) (hf : widen.fresh n e i h = true) {free : Int} (hc : chkFrom free (h :: t) = 0) (hfi : fitsL a (h :: t) = true) :
  widen.go a n i (h :: t) e out cur = widen.go a n (i + 1) t (wtill a n (wend h) t) (out ++ cur.toList) (some ⟨max 0 (h.f0 - n), widen.cut a (max 0 (h.f0 - n)) (wtill a n (wend h) t), (widen.cut a (max 0 (h.f0 - n)) h.f0 ++ h.f2) ++ widen.cut a (wend h) (wtill a n (wend h) t)⟩) := by
 obtain ⟨v1, v2, v3⟩ := chk_cons hc
 obtain ⟨u1, u2, _, _, u5, u6, _⟩ := validH_true v1
 obtain ⟨f1, f2, f3⟩ := fits_cons hfi
 have hw : wend h = h.f0 + (h.f1.length : Int) := rfl
 have ha := wtill_le (n := n) hn f1 (by rw [hw]; exact v3)
 have hl1 := cut_len a (max 0 (h.f0 - n)) h.f0
 rw [widen.go, if_pos ⟨u1, by omega, by omega, by omega⟩]
 unfold widen.start
 rw [if_pos hf]
 show (widen.grow a h (max 0 (h.f0 - n)) ⟨max 0 (h.f0 - n), [], []⟩).bind _ = _
 unfold widen.grow
 rw [if_pos ⟨by omega, by omega, by simp, by simp⟩]
 simp only [List.nil_append, Option.bind_some, wtill_eq, ← hw]
 unfold widen.tail
 rw [if_pos ⟨by omega, ha.1, ha.2, by simp only [List.length_append]; omega, by simp only [List.length_append]; omega⟩]
 show widen.go a n (i + 1) t _ _ (some ⟨_, widen.cut a _ h.f0 ++ h.f1 ++ _, _⟩) = _
 rw [← f2, cut_join a (by omega) (by omega), cut_join a (by omega) ha.1]
theorem fresh_iff {n z e : Int} {L : Int} {i : Nat} (hi : 0 < i) {h : S40} (hn : 0 ≤ n) (h0 : 0 ≤ e) (he : e + 1 ≤ h.f0) (hL : h.f0 ≤ L) (hz : z = min (min L (e + n)) h.f0) : widen.fresh n z i h = !decide (0 < n ∧ h.f0 - n ≤ e + n) := by
 unfold widen.fresh
 rw [decide_eq_false (show ¬ i = 0 by omega), Bool.false_or]
 by_cases h1 : n = 0
 ·rw [decide_eq_true h1, Bool.or_true, decide_eq_false (by omega)]
  rfl
 ·rw [decide_eq_false h1, Bool.or_false, decide_eq_true (show 0 < n by omega), Bool.true_and]
  by_cases h2 : h.f0 - n ≤ e + n
  ·rw [decide_eq_true (show 0 < n ∧ h.f0 - n ≤ e + n from ⟨by omega, h2⟩), decide_eq_false (by omega)]
   rfl
  ·rw [decide_eq_false (show ¬ (0 < n ∧ h.f0 - n ≤ e + n) from fun hh => h2 hh.2), decide_eq_true (by omega)]
   rfl
theorem go_grp (a : List ByteArray) (n : Int) (hn : 0 ≤ n) (hA : a.length ≤ 1000) : ∀ (t : List S40) (i : Nat) (fr e : Int) (N : List ByteArray) (out : List S40), 0 < i → 0 ≤ fr → fr ≤ e → e ≤ (a.length : Int) → chkFrom (e + 1) t = 0 → fitsL a t = true → N.length ≤ 2000 * i → i + t.length ≤ 1000 →
  widen.go a n i t (wtill a n e t) out (some ⟨fr, widen.cut a fr (wtill a n e t), N ++ widen.cut a e (wtill a n e t)⟩) = some (out ++ grp a n fr N e t) := by
 intro t
 induction t with
 | nil =>
  intro i fr e N out hi h0 h1 h2 hc hf hN hit
  rfl
 | cons h t ih =>
  intro i fr e N out hi h0 h1 h2 hc hf hN hit
  obtain ⟨v1, v2, v3⟩ := chk_cons hc
  obtain ⟨u1, u2, _, _, u5, u6, _⟩ := validH_true v1
  obtain ⟨f1, f2, f3⟩ := fits_cons hf
  have hw : wend h = h.f0 + (h.f1.length : Int) := rfl
  rw [List.length_cons] at hit
  have hz : wtill a n e (h :: t) = min (min (a.length : Int) (e + n)) h.f0 := rfl
  have hfr := fresh_iff (L := (a.length : Int)) (z := wtill a n e (h :: t)) hi (h := h) hn (by omega) v2 (by omega) hz
  by_cases hm : 0 < n ∧ h.f0 - n ≤ e + n
  ·rw [decide_eq_true hm] at hfr
   have ha := wtill_le (n := n) hn f1 (by rw [hw]; exact v3)
   have hzle : e ≤ wtill a n e (h :: t) := by rw [hz]; omega
   have hzh : wtill a n e (h :: t) ≤ h.f0 := by rw [hz]; omega
   rw [show grp a n fr N e (h :: t) = grp a n fr (N ++ widen.cut a e h.f0 ++ h.f2) (wend h) t from if_pos hm]
   obtain ⟨z, hz'⟩ : ∃ z, z = wtill a n e (h :: t) := ⟨_, rfl⟩
   rw [← hz'] at hfr hzle hzh ⊢
   rw [widen.go, if_pos ⟨u1, by omega, by omega, by omega⟩]
   unfold widen.start
   rw [hfr, if_neg (by decide)]
   have l1 := cut_len a fr z
   have l2 := cut_len a e z
   have l3 := cut_len a z h.f0
   have l4 := cut_len a e h.f0
   show (widen.grow a h z ⟨fr, widen.cut a fr z, N ++ widen.cut a e z⟩).bind _ = _
   unfold widen.grow
   rw [if_pos ⟨by omega, by omega, by show (widen.cut a fr z).length ≤ _; omega, by show (N ++ widen.cut a e z).length ≤ _; rw [List.length_append]; omega⟩]
   simp only [Option.bind_some, wtill_eq, ← hw]
   unfold widen.tail
   rw [if_pos ⟨by omega, ha.1, ha.2, by simp only [List.length_append]; omega, by simp only [List.length_append]; omega⟩]
   show widen.go a n (i + 1) t _ out (some ⟨fr, widen.cut a fr z ++ widen.cut a z h.f0 ++ h.f1 ++ _, N ++ widen.cut a e z ++ widen.cut a z h.f0 ++ h.f2 ++ _⟩) = _
   rw [← f2, cut_join a (by omega) (by omega), cut_join a (by omega) (by omega), cut_join a (by omega) ha.1, List.append_assoc N, cut_join a (by omega) (by omega)]
   exact ih (i + 1) fr (wend h) (N ++ widen.cut a e h.f0 ++ h.f2) out (by omega) h0 (by omega) f1 (by rw [hw]; exact v3) f3 (by simp only [List.length_append]; omega) (by omega)
  ·rw [decide_eq_false hm] at hfr
   have hzz : wtill a n e (h :: t) = min (a.length : Int) (e + n) := by rw [hz]; omega
   rw [go_fresh hn hA hfr hc hf, ih (i + 1) (max 0 (h.f0 - n)) (wend h) _ _ (by omega) (by omega) (by omega) f1 (by rw [hw]; exact v3) f3 (by have := cut_len a (max 0 (h.f0 - n)) h.f0; simp only [List.length_append]; omega) (by omega),
    show grp a n fr N e (h :: t) = _ :: _ from if_neg hm, hzz]
   simp
theorem go_wid {a : List ByteArray} {n : Int} (hn : 0 ≤ n) (hA : a.length ≤ 1000) {l : List S40} (hl : l.length ≤ 999) (hc : chkFrom 0 l = 0) (hf : fitsL a l = true) : widen.go a n 0 l 0 [] none = some (widL a n l) := by
 cases l with
 | nil => rfl
 | cons h t =>
  obtain ⟨v1, v2, v3⟩ := chk_cons hc
  obtain ⟨u1, u2, _, _, u5, u6, _⟩ := validH_true v1
  obtain ⟨f1, f2, f3⟩ := fits_cons hf
  have hw : wend h = h.f0 + (h.f1.length : Int) := rfl
  rw [List.length_cons] at hl
  rw [go_fresh hn hA (show widen.fresh n 0 0 h = true from by unfold widen.fresh; rfl) hc hf, go_grp a n hn hA t 1 _ (wend h) _ _ (by omega) (by omega) (by omega) f1 (by rw [hw]; exact v3) f3 (by have := cut_len a (max 0 (h.f0 - n)) h.f0; simp only [List.length_append]; omega) (by omega)]
  rfl
end Go.Proofs.Ytmgbbmjfjnhmiaa.Pr
end
section
namespace Go.Proofs.Ytmgbbmjfjnhmiaa.Pr
open Go.RowKit Go.Proofs.YtmgbbmjfjnhmiaaW.PrintWords Go.Proofs.YtmgbbmjfjnhmiaaW.PrintLast Go.Proofs.YtmgbbmjfjnhmiaaW.PrintMore
theorem rplain_loop (l : List ByteArray) (ht : tiny l) (hl : l.length ≤ 1000000) : ∀ (d i : Nat), i + d = l.length →
  Ev (fun k => sidingref15_Plain.l0 k l (i : Int)) (!(l.drop i).any (fun s => decide (2000 < s.size)) && (decide (l.length ≤ 60) && !l.any feedy)) := by
 intro d
 induction d with
 | zero =>
  intro i hi
  obtain rfl : i = l.length := by omega
  refine Ev.step (fun k => by rw [sidingref15_Plain.l0]) ?_
  refine Ev.neg (by omega) ?_
  rw [List.drop_length]
  by_cases h : l.length ≤ 60
  ·refine Ev.pos (by omega) (Ev.bc (feed_ev l ht) (Ev.rt ?_))
   simp [h]
  ·refine Ev.neg (by omega) (Ev.rt ?_)
   simp [h]
 | succ d ih =>
  intro i hi
  have h : i < l.length := by omega
  refine Ev.step (fun k => by rw [sidingref15_Plain.l0]) ?_
  refine Ev.pos (by omega) (Ev.pos (by omega) ?_)
  rw [rdOf_at _ _ _ h, drop_at l i h, List.any_cons]
  by_cases h3 : 2000 < l[i].size
  ·exact Ev.pos (by omega) (Ev.rt (by simp [h3]))
  ·refine Ev.neg (by omega) ?_
   rw [w64 (by omega)]
   have := ih (i + 1) (by omega)
   simpa [h3] using this
theorem rplain_ev (l : List ByteArray) (ht : tiny l) (hl : l.length ≤ 1000000) : Ev (fun k => sidingref15_Plain.f k l) (plainL l) := by
 unfold sidingref15_Plain.f
 have h := rplain_loop l ht hl l.length 0 (by omega)
 refine Ev.eq ?_ h
 rw [plainL, any_wide, List.drop_zero]
 cases l.any (fun s => decide (2000 < s.size)) <;> cases decide (l.length ≤ 60) <;> cases l.any feedy <;> rfl
theorem rvalid_ev (h : S40) (ht : tinyH h) : Ev (fun k => sidingref15_Valid.f k h.f0 h.f1 h.f2) (validH h) := by
 unfold sidingref15_Valid.f validH
 by_cases h1 : h.f0 ≥ 0
 ·refine Ev.pos h1 ?_
  rw [decide_eq_true (show 0 ≤ h.f0 from h1)]
  by_cases h2 : h.f0 ≤ 60
  ·refine Ev.pos h2 (Ev.bd (rplain_ev _ ht.1 ht.2.2.1) ?_)
   rw [decide_eq_true h2]
   cases h3 : plainL h.f1 with
   | false => exact Ev.neg (by decide) (Ev.rt rfl)
   | true =>
    refine Ev.pos rfl (Ev.bd (rplain_ev _ ht.2.1 ht.2.2.2) ?_)
    cases h4 : plainL h.f2 with
    | false => exact Ev.neg (by decide) (Ev.rt rfl)
    | true =>
     refine Ev.pos rfl ?_
     by_cases h5 : 0 < h.f1.length
     ·exact Ev.pos (by omega) (Ev.rt (by simp; omega))
     ·refine Ev.neg (by omega) (Ev.rt ?_)
      simp only [Bool.true_and]
      rw [Bool.eq_iff_iff, decide_eq_true_iff, decide_eq_true_iff]
      omega
  ·exact Ev.neg h2 (Ev.rt (by simp [h2]))
 ·exact Ev.neg h1 (Ev.rt (by simp [show ¬ 0 ≤ h.f0 from h1]))
def freeAt (l : List S40) (i : Nat) : Int := if h : 0 < i ∧ i - 1 < l.length then l[i - 1].f0 + (l[i - 1].f1.length : Int) + 1 else 0
theorem rcheck_loop (l : List S40) (hl : l.length ≤ 40) (ht : ∀ h ∈ l, tinyH h) : ∀ (d i : Nat), i + d = l.length → (∀ j (hj : j < l.length), j < i → validH l[j] = true) →
  Ev (fun k => sidingref15_Check.l0 k l (i : Int)) (chkFrom (freeAt l i) (l.drop i)) := by
 intro d
 induction d with
 | zero =>
  intro i hi _
  obtain rfl : i = l.length := by omega
  refine Ev.step (fun k => by rw [sidingref15_Check.l0]) ?_
  refine Ev.neg (by omega) (Ev.rt ?_)
  rw [List.drop_length]
  rfl
 | succ d ih =>
  intro i hi hpre
  have h : i < l.length := by omega
  refine Ev.step (fun k => by rw [sidingref15_Check.l0]) ?_
  refine Ev.pos (by omega) (Ev.pos (by omega) ?_)
  rw [rd_h _ _ h, drop_at l i h]
  refine Ev.bd (rvalid_ev _ (ht _ (List.getElem_mem h))) ?_
  unfold chkFrom
  cases hv : validH l[i] with
  | false => exact Ev.neg (by decide) (Ev.rt (by simp))
  | true =>
   obtain ⟨v1, v2, _, _, v3, v4, _⟩ := validH_true hv
   refine Ev.pos rfl ?_
   rw [if_pos rfl]
   have hpre' : ∀ j (hj : j < l.length), j < i + 1 → validH l[j] = true := fun j hj hji => by
    by_cases e : j = i
    ·subst e; exact hv
    ·exact hpre j hj (by omega)
   have hnext := ih (i + 1) (by omega) hpre'
   have hfree : freeAt l (i + 1) = l[i].f0 + (l[i].f1.length : Int) + 1 := by
    unfold freeAt
    rw [dif_pos ⟨by omega, by simpa using h⟩]
    simp
   rw [hfree] at hnext
   by_cases hi0 : 0 < i
   ·obtain ⟨j, rfl⟩ : ∃ j, i = j + 1 := ⟨i - 1, by omega⟩
    have hj : j < l.length := by omega
    have hvj := hpre j hj (by omega)
    obtain ⟨u1, u2, _, _, u3, u4, _⟩ := validH_true hvj
    have hfj : freeAt l (j + 1) = l[j].f0 + (l[j].f1.length : Int) + 1 := by
     unfold freeAt
     rw [dif_pos ⟨by omega, by simpa using hj⟩]
     simp
    rw [hfj]
    have ew : wrap64 (((j + 1 : Nat) : Int) - 1) = (j : Int) := by rw [w64 (by omega)]; omega
    refine Ev.pos (by omega) ?_
    rw [ew]
    refine Ev.pos (by omega) (Ev.pos (by omega) ?_)
    rw [rd_h _ _ hj, w64 (x := l[j].f0 + (l[j].f1.length : Int)) (by omega)]
    by_cases hf : l[j + 1].f0 < l[j].f0 + (l[j].f1.length : Int) + 1
    ·exact Ev.pos (by omega) (Ev.rt (by rw [if_pos hf]))
    ·refine Ev.neg (by omega) ?_
     rw [if_neg hf, w64 (by omega)]
     exact hnext
   ·obtain rfl : i = 0 := by omega
    have hf0 : freeAt l 0 = 0 := by simp [freeAt]
    rw [hf0, if_neg (by omega)]
    refine Ev.neg (by simp) ?_
    rw [w64 (by simp)]
    exact hnext
theorem rcheck_ev (l : List S40) (ht : ∀ h ∈ l, tinyH h) : Ev (fun k => sidingref15_Check.f k l) (checkL l) := by
 unfold sidingref15_Check.f checkL
 by_cases h : 40 < l.length
 ·exact Ev.pos (by omega) (Ev.rt (by rw [if_pos h]))
 ·refine Ev.neg (by omega) ?_
  rw [if_neg h]
  have := rcheck_loop l (by omega) ht l.length 0 (by omega) (fun j _ hj => absurd hj (Nat.not_lt_zero _))
  simpa [freeAt] using this
theorem hlong_loop (l : List S40) (hl : l.length ≤ 9000000000000000000) (ht : ∀ h ∈ l, h.f1.length ≤ 9000000000000000000 ∧ h.f2.length ≤ 9000000000000000000) : ∀ (d i : Nat), i + d = 61 →
  Ev (fun k => sidingref15_Long.l0 k l (i : Int)) (((l.take 61).drop i).any (fun h => longOf h.f1 || longOf h.f2) || decide (60 < l.length)) := by
 intro d
 induction d with
 | zero =>
  intro i hi
  obtain rfl : i = 61 := by omega
  have e : (l.take 61).drop 61 = [] := List.drop_eq_nil_of_le (by rw [List.length_take]; omega)
  rw [e]
  refine Ev.step (fun k => by rw [sidingref15_Long.l0]) ?_
  by_cases h : 61 < l.length
  ·refine Ev.pos (by omega) (Ev.step (fun k => by rw [sidingref15_Long.j1]) (Ev.neg (by decide) (Ev.rt ?_)))
   simp
   omega
  ·refine Ev.neg (by omega) (Ev.step (fun k => by rw [sidingref15_Long.j1]) (Ev.neg (by decide) (Ev.rt ?_)))
   simp
   omega
 | succ d ih =>
  intro i hi
  refine Ev.step (fun k => by rw [sidingref15_Long.l0]) ?_
  by_cases h : i < l.length
  ·have hlt : i < (l.take 61).length := by rw [List.length_take]; omega
   have e : (l.take 61).drop i = l[i] :: (l.take 61).drop (i + 1) := by rw [drop_at _ i hlt]; simp
   rw [e, List.any_cons]
   obtain ⟨t1, t2⟩ := ht _ (List.getElem_mem h)
   refine Ev.pos (by omega) (Ev.step (fun k => by rw [sidingref15_Long.j1]) (Ev.pos (by simp; omega) (Ev.pos (by omega) (Ev.pos (by omega) ?_))))
   rw [rd_h _ _ h, w64 (by omega)]
   refine Ev.bd (long_ev _ t1) ?_
   cases h1 : longOf l[i].f1 with
   | true => exact Ev.pos rfl (Ev.rt (by simp))
   | false =>
    refine Ev.neg (by decide) (Ev.bd (long_ev _ t2) ?_)
    cases h2 : longOf l[i].f2 with
    | true => exact Ev.pos rfl (Ev.rt (by simp))
    | false =>
     refine Ev.neg (by decide) ?_
     have := ih (i + 1) (by omega)
     simpa using this
  ·have e : (l.take 61).drop i = [] := List.drop_eq_nil_of_le (by rw [List.length_take]; omega)
   rw [e]
   refine Ev.neg (by omega) (Ev.step (fun k => by rw [sidingref15_Long.j1]) (Ev.neg (by decide) (Ev.rt ?_)))
   simp
   omega
theorem hlong_ev (l : List S40) (hl : l.length ≤ 9000000000000000000) (ht : ∀ h ∈ l, h.f1.length ≤ 9000000000000000000 ∧ h.f2.length ≤ 9000000000000000000) : Ev (fun k => sidingref15_Long.f k l) (hlong l) := by
 unfold sidingref15_Long.f
 have h := hlong_loop l hl ht 61 0 (by omega)
 simpa [hlong] using h
end Go.Proofs.Ytmgbbmjfjnhmiaa.Pr
end
