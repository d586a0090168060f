-- Written by wip/tools/myprint.py of this project (a walk of the program's text by program).
import Derived.Test.YtiledjckdnkjgaaDoorK
import Derived.Test.YtiledjckdnkjgaaDoorAlive13
import Derived.Test.YtiledjckdnkjgaaDoorF10
import Derived.Test.YtiledjckdnkjgaaDoorF11
import Derived.Test.YtiledjckdnkjgaaDoorF12
import Derived.Test.YtiledjckdnkjgaaDoorF13
import Derived.Test.YtiledjckdnkjgaaDoorF9
namespace Go.Proofs.YtiledjckdnkjgaaDoor.Pr
open Go.RowKit Go.Proofs.YtiledjckdnkjgaaDoorW.PrintWords Go.Proofs.YtiledjckdnkjgaaDoorW.PrintLast Go.Proofs.YtiledjckdnkjgaaDoorW.PrintMore
attribute [local go_sem] max2_int min2_int max_two min_two max_three min_three max_four min_four   -- for this text's walks alone
set_option linter.unusedVariables false
set_option linter.unusedSimpArgs false

/-! ### sidinglaw13_LinesReplaces: function 4 -/
mutual
def sidinglaw13_LinesReplaces.j0 : Nat → List ByteArray → List ByteArray → Int → Int → Bool → Bool → Option (Bool)
  | 0, _, _, _, _, _, _ => none
  | k + 1, x0, x1, x2, x3, x9, x37 => if x37 = true then (some x9) else ((lines_Common.f k x0 x1).bind fun bt230 => (if bt230.2.2 = 0 then (if bt230.1 < 0 then (sidinglaw13_LinesReplaces.j1 k x0 x1 x2 x3 x9 bt230.1 bt230.2.1 true) else (if bt230.2.1 < 0 then (sidinglaw13_LinesReplaces.j1 k x0 x1 x2 x3 x9 bt230.1 bt230.2.1 true) else (if (wrap64 (bt230.1 + bt230.2.1)) > (x0.length : Int) then (sidinglaw13_LinesReplaces.j1 k x0 x1 x2 x3 x9 bt230.1 bt230.2.1 true) else (sidinglaw13_LinesReplaces.j1 k x0 x1 x2 x3 x9 bt230.1 bt230.2.1 (decide ((wrap64 (bt230.1 + bt230.2.1)) > (x1.length : Int))))))) else (sidinglaw13_LinesReplaces.j1 k x0 x1 x2 x3 x9 bt230.1 bt230.2.1 true)))
def sidinglaw13_LinesReplaces.j1 : Nat → List ByteArray → List ByteArray → Int → Int → Bool → Int → Int → Bool → Option (Bool)
  | 0, _, _, _, _, _, _, _, _ => none
  | k + 1, x0, x1, x2, x3, x9, x10, x11, x71 => if x71 = true then (some false) else (if 0 ≤ x10 then (if x10 ≤ (wrap64 ((x1.length : Int) - x11)) then (if (wrap64 ((x1.length : Int) - x11)) ≤ (x1.length : Int) then ((lines_Replace.f k x0 x10 (wrap64 ((x0.length : Int) - x11)) ((x1.take ((wrap64 ((x1.length : Int) - x11)) : Int).toNat).drop (x10 : Int).toNat)).bind fun bt234 => (if bt234.2 = 0 then ((sidingref13_Same.f k bt234.1 x1).bind fun t238 => (sidinglaw13_LinesReplaces.j2 k x0 x2 x3 x9 (!t238))) else (sidinglaw13_LinesReplaces.j2 k x0 x2 x3 x9 true))) else (none)) else (none)) else (none))
def sidinglaw13_LinesReplaces.j2 : Nat → List ByteArray → Int → Int → Bool → Bool → Option (Bool)
  | 0, _, _, _, _, _ => none
  | k + 1, x0, x2, x3, x9, x96 => if x96 = true then (some false) else (if x2 < 0 then (sidinglaw13_LinesReplaces.j3 k x0 x2 x3 x9 true) else (if x3 < x2 then (sidinglaw13_LinesReplaces.j3 k x0 x2 x3 x9 true) else (sidinglaw13_LinesReplaces.j3 k x0 x2 x3 x9 (decide (x3 > (x0.length : Int))))))
def sidinglaw13_LinesReplaces.j3 : Nat → List ByteArray → Int → Int → Bool → Bool → Option (Bool)
  | 0, _, _, _, _, _ => none
  | k + 1, x0, x2, x3, x9, x109 => if x109 = true then (some x9) else (if 0 ≤ x2 then (if x2 ≤ x3 then (if x3 ≤ (x0.length : Int) then ((lines_Replace.f k x0 x2 x3 ((x0.take (x3 : Int).toNat).drop (x2 : Int).toNat)).bind fun bt240 => (if x9 = true then (if bt240.2 = 0 then ((sidingref13_Same.f k bt240.1 x0).bind fun t244 => (some t244)) else (some false)) else (some false))) else (none)) else (none)) else (none))
end
def sidinglaw13_LinesReplaces.f (k : Nat) (l0 : List ByteArray) (l1 : List ByteArray) (a2 : Int) (a3 : Int) : Option (Bool) := (law13_alive.f).bind fun t225 => ((sidingref13_Long.f k l0).bind fun t226 => (if t226 = true then (sidinglaw13_LinesReplaces.j0 k l0 l1 a2 a3 t225 true) else ((sidingref13_Long.f k l1).bind fun t227 => (if t227 = true then (sidinglaw13_LinesReplaces.j0 k l0 l1 a2 a3 t225 true) else ((sidingref13_Lines.f k l0).bind fun t228 => (if t228 = 0 then ((sidingref13_Lines.f k l1).bind fun t229 => (if t229 = 0 then (sidinglaw13_LinesReplaces.j0 k l0 l1 a2 a3 t225 (!t225)) else (sidinglaw13_LinesReplaces.j0 k l0 l1 a2 a3 t225 true))) else (sidinglaw13_LinesReplaces.j0 k l0 l1 a2 a3 t225 true)))))))
theorem sidinglaw13_LinesReplaces.mono_l : ∀ k, (∀ y0 y1 y2 y3 y4 y5, LeO (sidinglaw13_LinesReplaces.j0 k y0 y1 y2 y3 y4 y5) (sidinglaw13_LinesReplaces.j0 (k + 1) y0 y1 y2 y3 y4 y5)) ∧ (∀ y0 y1 y2 y3 y4 y5 y6 y7, LeO (sidinglaw13_LinesReplaces.j1 k y0 y1 y2 y3 y4 y5 y6 y7) (sidinglaw13_LinesReplaces.j1 (k + 1) y0 y1 y2 y3 y4 y5 y6 y7)) ∧ (∀ y0 y1 y2 y3 y4, LeO (sidinglaw13_LinesReplaces.j2 k y0 y1 y2 y3 y4) (sidinglaw13_LinesReplaces.j2 (k + 1) y0 y1 y2 y3 y4)) ∧ (∀ y0 y1 y2 y3 y4, LeO (sidinglaw13_LinesReplaces.j3 k y0 y1 y2 y3 y4) (sidinglaw13_LinesReplaces.j3 (k + 1) y0 y1 y2 y3 y4))
  | 0 => ⟨fun _ _ _ _ _ _ r h => by simp [sidinglaw13_LinesReplaces.j0] at h, fun _ _ _ _ _ _ _ _ r h => by simp [sidinglaw13_LinesReplaces.j1] at h, fun _ _ _ _ _ r h => by simp [sidinglaw13_LinesReplaces.j2] at h, fun _ _ _ _ _ r h => by simp [sidinglaw13_LinesReplaces.j3] at h⟩
  | k + 1 => by
    obtain ⟨ih0, ih1, ih2, ih3⟩ := sidinglaw13_LinesReplaces.mono_l k
    refine ⟨?_, ?_, ?_, ?_⟩
    · intro y0 y1 y2 y3 y4 y5
      unfold sidinglaw13_LinesReplaces.j0
      repeat' first
      | (with_reducible exact ih0 _ _ _ _ _ _)
      | (with_reducible exact ih1 _ _ _ _ _ _ _ _)
      | (with_reducible exact ih2 _ _ _ _ _)
      | (with_reducible exact ih3 _ _ _ _ _)
      | (with_reducible exact lines_Common.mono _ _ _)
      | (with_reducible exact lines_Replace.mono _ _ _ _ _)
      | (with_reducible exact sidingref13_Lines.mono _ _)
      | (with_reducible exact sidingref13_Long.mono _ _)
      | (with_reducible exact sidingref13_Same.mono _ _ _)
      | (with_reducible exact LeO.refl _)
      | (with_reducible exact LeO.none _)
      | (with_reducible refine LeO.ite ?_ ?_)
      | (with_reducible refine LeO.bind ?_ (fun _ => ?_))
      | exact ih0 _ _ _ _ _ _
      | exact ih1 _ _ _ _ _ _ _ _
      | exact ih2 _ _ _ _ _
      | exact ih3 _ _ _ _ _
      | exact lines_Common.mono _ _ _
      | exact lines_Replace.mono _ _ _ _ _
      | exact sidingref13_Lines.mono _ _
      | exact sidingref13_Long.mono _ _
      | exact sidingref13_Same.mono _ _ _
      | exact LeO.none _
      | refine LeO.ite ?_ ?_
      | refine LeO.bind ?_ (fun _ => ?_)
    · intro y0 y1 y2 y3 y4 y5 y6 y7
      unfold sidinglaw13_LinesReplaces.j1
      repeat' first
      | (with_reducible exact ih0 _ _ _ _ _ _)
      | (with_reducible exact ih1 _ _ _ _ _ _ _ _)
      | (with_reducible exact ih2 _ _ _ _ _)
      | (with_reducible exact ih3 _ _ _ _ _)
      | (with_reducible exact lines_Common.mono _ _ _)
      | (with_reducible exact lines_Replace.mono _ _ _ _ _)
      | (with_reducible exact sidingref13_Lines.mono _ _)
      | (with_reducible exact sidingref13_Long.mono _ _)
      | (with_reducible exact sidingref13_Same.mono _ _ _)
      | (with_reducible exact LeO.refl _)
      | (with_reducible exact LeO.none _)
      | (with_reducible refine LeO.ite ?_ ?_)
      | (with_reducible refine LeO.bind ?_ (fun _ => ?_))
      | exact ih0 _ _ _ _ _ _
      | exact ih1 _ _ _ _ _ _ _ _
      | exact ih2 _ _ _ _ _
      | exact ih3 _ _ _ _ _
      | exact lines_Common.mono _ _ _
      | exact lines_Replace.mono _ _ _ _ _
      | exact sidingref13_Lines.mono _ _
      | exact sidingref13_Long.mono _ _
      | exact sidingref13_Same.mono _ _ _
      | exact LeO.none _
      | refine LeO.ite ?_ ?_
      | refine LeO.bind ?_ (fun _ => ?_)
    · intro y0 y1 y2 y3 y4
      unfold sidinglaw13_LinesReplaces.j2
      repeat' first
      | (with_reducible exact ih0 _ _ _ _ _ _)
      | (with_reducible exact ih1 _ _ _ _ _ _ _ _)
      | (with_reducible exact ih2 _ _ _ _ _)
      | (with_reducible exact ih3 _ _ _ _ _)
      | (with_reducible exact lines_Common.mono _ _ _)
      | (with_reducible exact lines_Replace.mono _ _ _ _ _)
      | (with_reducible exact sidingref13_Lines.mono _ _)
      | (with_reducible exact sidingref13_Long.mono _ _)
      | (with_reducible exact sidingref13_Same.mono _ _ _)
      | (with_reducible exact LeO.refl _)
      | (with_reducible exact LeO.none _)
      | (with_reducible refine LeO.ite ?_ ?_)
      | (with_reducible refine LeO.bind ?_ (fun _ => ?_))
      | exact ih0 _ _ _ _ _ _
      | exact ih1 _ _ _ _ _ _ _ _
      | exact ih2 _ _ _ _ _
      | exact ih3 _ _ _ _ _
      | exact lines_Common.mono _ _ _
      | exact lines_Replace.mono _ _ _ _ _
      | exact sidingref13_Lines.mono _ _
      | exact sidingref13_Long.mono _ _
      | exact sidingref13_Same.mono _ _ _
      | exact LeO.none _
      | refine LeO.ite ?_ ?_
      | refine LeO.bind ?_ (fun _ => ?_)
    · intro y0 y1 y2 y3 y4
      unfold sidinglaw13_LinesReplaces.j3
      repeat' first
      | (with_reducible exact ih0 _ _ _ _ _ _)
      | (with_reducible exact ih1 _ _ _ _ _ _ _ _)
      | (with_reducible exact ih2 _ _ _ _ _)
      | (with_reducible exact ih3 _ _ _ _ _)
      | (with_reducible exact lines_Common.mono _ _ _)
      | (with_reducible exact lines_Replace.mono _ _ _ _ _)
      | (with_reducible exact sidingref13_Lines.mono _ _)
      | (with_reducible exact sidingref13_Long.mono _ _)
      | (with_reducible exact sidingref13_Same.mono _ _ _)
      | (with_reducible exact LeO.refl _)
      | (with_reducible exact LeO.none _)
      | (with_reducible refine LeO.ite ?_ ?_)
      | (with_reducible refine LeO.bind ?_ (fun _ => ?_))
      | exact ih0 _ _ _ _ _ _
      | exact ih1 _ _ _ _ _ _ _ _
      | exact ih2 _ _ _ _ _
      | exact ih3 _ _ _ _ _
      | exact lines_Common.mono _ _ _
      | exact lines_Replace.mono _ _ _ _ _
      | exact sidingref13_Lines.mono _ _
      | exact sidingref13_Long.mono _ _
      | exact sidingref13_Same.mono _ _ _
      | exact LeO.none _
      | refine LeO.ite ?_ ?_
      | refine LeO.bind ?_ (fun _ => ?_)
theorem sidinglaw13_LinesReplaces.mono : ∀ a0 a1 a2 a3 k, LeO (sidinglaw13_LinesReplaces.f k a0 a1 a2 a3) (sidinglaw13_LinesReplaces.f (k + 1) a0 a1 a2 a3) := by
  intro a0 a1 a2 a3 k
  obtain ⟨ih0, ih1, ih2, ih3⟩ := sidinglaw13_LinesReplaces.mono_l k
  unfold sidinglaw13_LinesReplaces.f
  repeat' first
      | (with_reducible exact ih0 _ _ _ _ _ _)
      | (with_reducible exact ih1 _ _ _ _ _ _ _ _)
      | (with_reducible exact ih2 _ _ _ _ _)
      | (with_reducible exact ih3 _ _ _ _ _)
      | (with_reducible exact lines_Common.mono _ _ _)
      | (with_reducible exact lines_Replace.mono _ _ _ _ _)
      | (with_reducible exact sidingref13_Lines.mono _ _)
      | (with_reducible exact sidingref13_Long.mono _ _)
      | (with_reducible exact sidingref13_Same.mono _ _ _)
      | (with_reducible exact LeO.refl _)
      | (with_reducible exact LeO.none _)
      | (with_reducible refine LeO.ite ?_ ?_)
      | (with_reducible refine LeO.bind ?_ (fun _ => ?_))
      | exact ih0 _ _ _ _ _ _
      | exact ih1 _ _ _ _ _ _ _ _
      | exact ih2 _ _ _ _ _
      | exact ih3 _ _ _ _ _
      | exact lines_Common.mono _ _ _
      | exact lines_Replace.mono _ _ _ _ _
      | exact sidingref13_Lines.mono _ _
      | exact sidingref13_Long.mono _ _
      | exact sidingref13_Same.mono _ _ _
      | exact LeO.none _
      | refine LeO.ite ?_ ?_
      | refine LeO.bind ?_ (fun _ => ?_)
set_option maxHeartbeats 8000000 in
set_option maxRecDepth 100000 in
theorem sidinglaw13_LinesReplaces.calls (k : Nat) (A0 : Option Addr) (c0 : Nat) (l0 : List ByteArray) (A1 : Option Addr) (c1 : Nat) (l1 : List ByteArray) (a2 : Int) (a3 : Int) (r : Bool) (w : World) (hr0 : Kd.C Kd.string w A0 l0.length l0) (hc0 : l0.length ≤ c0) (hr1 : Kd.C Kd.string w A1 l1.length l1) (hc1 : l1.length ≤ c1) (h : sidinglaw13_LinesReplaces.f k l0 l1 a2 a3 = some r) (hr_ : Aside0 (r = true)) :
    Calls Tryd.prog 4 #[.slice A0 l0.length c0, .slice A1 l1.length c1, .int .i64 a2, .int .i64 a3] w fun e w' => e = .returned (.bool r) ∧ Below w.heap.size w w' := by
  have HR0 := Aside0.mk hr0
  have HC0 := Aside0.mk hc0
  clear hr0 hc0
  have HR1 := Aside0.mk hr1
  have HC1 := Aside0.mk hc1
  clear hr1 hc1
  have HB := Aside0.mk (Below.refl w.heap.size w)
  have H : ((law13_alive.f).bind fun t225 => ((sidingref13_Long.f k l0).bind fun t226 => (if t226 = true then (sidinglaw13_LinesReplaces.j0 k l0 l1 a2 a3 t225 true) else ((sidingref13_Long.f k l1).bind fun t227 => (if t227 = true then (sidinglaw13_LinesReplaces.j0 k l0 l1 a2 a3 t225 true) else ((sidingref13_Lines.f k l0).bind fun t228 => (if t228 = 0 then ((sidingref13_Lines.f k l1).bind fun t229 => (if t229 = 0 then (sidinglaw13_LinesReplaces.j0 k l0 l1 a2 a3 t225 (!t225)) else (sidinglaw13_LinesReplaces.j0 k l0 l1 a2 a3 t225 true))) else (sidinglaw13_LinesReplaces.j0 k l0 l1 a2 a3 t225 true)))))))) = some r := h
  clear h
  replace H := Option.bind_eq_some_iff.mp H
  obtain ⟨t225, A50, H⟩ := H
  replace H : ((sidingref13_Long.f k l0).bind fun t226 => (if t226 = true then (sidinglaw13_LinesReplaces.j0 k l0 l1 a2 a3 t225 true) else ((sidingref13_Long.f k l1).bind fun t227 => (if t227 = true then (sidinglaw13_LinesReplaces.j0 k l0 l1 a2 a3 t225 true) else ((sidingref13_Lines.f k l0).bind fun t228 => (if t228 = 0 then ((sidingref13_Lines.f k l1).bind fun t229 => (if t229 = 0 then (sidinglaw13_LinesReplaces.j0 k l0 l1 a2 a3 t225 (!t225)) else (sidinglaw13_LinesReplaces.j0 k l0 l1 a2 a3 t225 true))) else (sidinglaw13_LinesReplaces.j0 k l0 l1 a2 a3 t225 true))))))) = some r := H
  have A5 := Aside0.mk A50
  clear A50
  have HC6 := Aside0.mk H
  clear H
  go_enter Tryd.func4, Tryd.ntmps4
  go_upto_region 2 with (first | ((with_reducible refine gate_callee (f := 8) rfl ?_); refine goesL_ (some 17) rfl rfl Tryd.func8 (by kernel_rfl) rfl #[] rfl (by (try simp only [List.map_toArray, List.map_cons, List.map_nil]); first | done | rfl | (simp only [List.length_drop, List.length_take]; rfl)) ?_; (with_reducible refine (law13_alive.calls  t225 _ A5.out).mono ?_); rintro e w7 ⟨rfl, hb⟩; refine ⟨_, rfl, ?_⟩; have n0_ := Aside0.mk (below_step (by repeat (first | (with_reducible first | exact HB.out | apply below_alloc | apply pw_below_drewN | apply below_drew1) | exact HB.out)) hb); clear HB; have HB := n0_; clear n0_; (try clear hb); (try clear hb2); (try clear hk); (try clear hi)))
  (try simp only [Act.put, List.setIfInBounds_toArray, List.set_cons_zero, List.set_cons_succ])
  go_cut [37] (fun v37 wc => ∃ (kq : Nat) (x37_5 : Bool), v37 = .bool x37_5 ∧ Aside0 (sidinglaw13_LinesReplaces.j0 kq l0 l1 a2 a3 t225 x37_5 = some r) ∧ Aside0 (kq ≤ k) ∧ Aside0 (Below w.heap.size w wc))
  case first =>
    have H := HC6.out
    clear HC6
    replace H := Option.bind_eq_some_iff.mp H
    obtain ⟨t226, A80, H⟩ := H
    replace H : (if t226 = true then (sidinglaw13_LinesReplaces.j0 k l0 l1 a2 a3 t225 true) else ((sidingref13_Long.f k l1).bind fun t227 => (if t227 = true then (sidinglaw13_LinesReplaces.j0 k l0 l1 a2 a3 t225 true) else ((sidingref13_Lines.f k l0).bind fun t228 => (if t228 = 0 then ((sidingref13_Lines.f k l1).bind fun t229 => (if t229 = 0 then (sidinglaw13_LinesReplaces.j0 k l0 l1 a2 a3 t225 (!t225)) else (sidinglaw13_LinesReplaces.j0 k l0 l1 a2 a3 t225 true))) else (sidinglaw13_LinesReplaces.j0 k l0 l1 a2 a3 t225 true)))))) = some r := H
    have A8 := Aside0.mk A80
    clear A80
    by_cases c9 : t226 = true
    · subst c9
      have H1 : (sidinglaw13_LinesReplaces.j0 k l0 l1 a2 a3 t225 true) = some r := by rw [if_pos rfl] at H; exact H
      clear H
      have H := H1
      clear H1
      have H' := Aside0.mk H
      clear H
      go_wp2_with (first | ((with_reducible refine gate_callee (f := 9) rfl ?_); refine goesL_ (some 19) rfl rfl Tryd.func9 (by kernel_rfl) rfl #[.slice A0 l0.length c0] rfl (by (try simp only [List.map_toArray, List.map_cons, List.map_nil]); first | done | rfl | (simp only [List.length_drop, List.length_take]; rfl)) ?_; (with_reducible refine (sidingref13_Long.calls k _ _ l0 true _ ?side1 ?side2 A8.out).mono ?_); (case side1 => repeat (first | exact (Kd.C_below HR0.out HB.out) | (with_reducible refine Kd.C_alloc ?_ _) | (with_reducible refine Kd.C_drewN ?_ _) | (with_reducible refine Kd.C_drew ?_))); (case side2 => exact HC0.out); rintro e w' ⟨rfl, ⟨nd, rfl⟩⟩; refine ⟨_, rfl, ?_⟩))
      go_meet
      case rel => exact ⟨_, (true), (by first | rfl | (simp; done) | (simp [*]; done)), H', ⟨by first | omega | exact Nat.le_refl _⟩, ⟨by repeat (first | (with_reducible first | exact HB.out | apply below_alloc | apply pw_below_drewN | apply below_drew1) | exact HB.out)⟩⟩
    · replace c9 := Bool.eq_false_iff.mpr c9
      subst c9
      have H1 : ((sidingref13_Long.f k l1).bind fun t227 => (if t227 = true then (sidinglaw13_LinesReplaces.j0 k l0 l1 a2 a3 t225 true) else ((sidingref13_Lines.f k l0).bind fun t228 => (if t228 = 0 then ((sidingref13_Lines.f k l1).bind fun t229 => (if t229 = 0 then (sidinglaw13_LinesReplaces.j0 k l0 l1 a2 a3 t225 (!t225)) else (sidinglaw13_LinesReplaces.j0 k l0 l1 a2 a3 t225 true))) else (sidinglaw13_LinesReplaces.j0 k l0 l1 a2 a3 t225 true))))) = some r := by rw [if_neg (show ¬ (false = true) by decide)] at H; exact H
      clear H
      have H := H1
      clear H1
      replace H := Option.bind_eq_some_iff.mp H
      obtain ⟨t227, A100, H⟩ := H
      replace H : (if t227 = true then (sidinglaw13_LinesReplaces.j0 k l0 l1 a2 a3 t225 true) else ((sidingref13_Lines.f k l0).bind fun t228 => (if t228 = 0 then ((sidingref13_Lines.f k l1).bind fun t229 => (if t229 = 0 then (sidinglaw13_LinesReplaces.j0 k l0 l1 a2 a3 t225 (!t225)) else (sidinglaw13_LinesReplaces.j0 k l0 l1 a2 a3 t225 true))) else (sidinglaw13_LinesReplaces.j0 k l0 l1 a2 a3 t225 true)))) = some r := H
      have A10 := Aside0.mk A100
      clear A100
      by_cases c11 : t227 = true
      · subst c11
        have H1 : (sidinglaw13_LinesReplaces.j0 k l0 l1 a2 a3 t225 true) = some r := by rw [if_pos rfl] at H; exact H
        clear H
        have H := H1
        clear H1
        have H' := Aside0.mk H
        clear H
        go_wp2_with (first | ((with_reducible refine gate_callee (f := 9) rfl ?_); refine goesL_ (some 19) rfl rfl Tryd.func9 (by kernel_rfl) rfl #[.slice A0 l0.length c0] rfl (by (try simp only [List.map_toArray, List.map_cons, List.map_nil]); first | done | rfl | (simp only [List.length_drop, List.length_take]; rfl)) ?_; (with_reducible refine (sidingref13_Long.calls k _ _ l0 false _ ?side1 ?side2 A8.out).mono ?_); (case side1 => repeat (first | exact (Kd.C_below HR0.out HB.out) | (with_reducible refine Kd.C_alloc ?_ _) | (with_reducible refine Kd.C_drewN ?_ _) | (with_reducible refine Kd.C_drew ?_))); (case side2 => exact HC0.out); rintro e w' ⟨rfl, ⟨nd, rfl⟩⟩; refine ⟨_, rfl, ?_⟩) | (go_at_call 9; (with_reducible refine (sidingref13_Long.calls k _ _ l1 true _ ?side1 ?side2 A10.out).mono ?_); (case side1 => repeat (first | exact (Kd.C_below HR1.out (by repeat (first | (with_reducible first | exact HB.out | apply below_alloc | apply pw_below_drewN | apply below_drew1) | exact HB.out))) | (with_reducible refine Kd.C_alloc ?_ _) | (with_reducible refine Kd.C_drewN ?_ _) | (with_reducible refine Kd.C_drew ?_))); (case side2 => exact HC1.out); rintro e w' ⟨rfl, ⟨nd, rfl⟩⟩))
        go_meet
        case rel => exact ⟨_, (true), (by first | rfl | (simp; done) | (simp [*]; done)), H', ⟨by first | omega | exact Nat.le_refl _⟩, ⟨by repeat (first | (with_reducible first | exact HB.out | apply below_alloc | apply pw_below_drewN | apply below_drew1) | exact HB.out)⟩⟩
      · replace c11 := Bool.eq_false_iff.mpr c11
        subst c11
        have H1 : ((sidingref13_Lines.f k l0).bind fun t228 => (if t228 = 0 then ((sidingref13_Lines.f k l1).bind fun t229 => (if t229 = 0 then (sidinglaw13_LinesReplaces.j0 k l0 l1 a2 a3 t225 (!t225)) else (sidinglaw13_LinesReplaces.j0 k l0 l1 a2 a3 t225 true))) else (sidinglaw13_LinesReplaces.j0 k l0 l1 a2 a3 t225 true))) = some r := by rw [if_neg (show ¬ (false = true) by decide)] at H; exact H
        clear H
        have H := H1
        clear H1
        replace H := Option.bind_eq_some_iff.mp H
        obtain ⟨t228, A120, H⟩ := H
        replace H : (if t228 = 0 then ((sidingref13_Lines.f k l1).bind fun t229 => (if t229 = 0 then (sidinglaw13_LinesReplaces.j0 k l0 l1 a2 a3 t225 (!t225)) else (sidinglaw13_LinesReplaces.j0 k l0 l1 a2 a3 t225 true))) else (sidinglaw13_LinesReplaces.j0 k l0 l1 a2 a3 t225 true)) = some r := H
        have A12 := Aside0.mk A120
        clear A120
        by_cases c13 : t228 = 0
        · rw [if_pos c13] at H
          have c13b0 : (t228 == 0) = true := beq_iff_eq.mpr c13
          have c13b1 : (t228 != 0) = false := bne_eq_false_iff_eq.mpr c13
          clear c13
          (first | rw [c13b0] | (simp only [i64_w, i32_w]; rw [c13b0]) | skip)
          replace H := Option.bind_eq_some_iff.mp H
          obtain ⟨t229, A140, H⟩ := H
          replace H : (if t229 = 0 then (sidinglaw13_LinesReplaces.j0 k l0 l1 a2 a3 t225 (!t225)) else (sidinglaw13_LinesReplaces.j0 k l0 l1 a2 a3 t225 true)) = some r := H
          have A14 := Aside0.mk A140
          clear A140
          by_cases c15 : t229 = 0
          · rw [if_pos c15] at H
            have c15b0 : (t229 == 0) = true := beq_iff_eq.mpr c15
            have c15b1 : (t229 != 0) = false := bne_eq_false_iff_eq.mpr c15
            clear c15
            have H' := Aside0.mk H
            clear H
            go_wp2_with (first | ((with_reducible refine gate_callee (f := 9) rfl ?_); refine goesL_ (some 19) rfl rfl Tryd.func9 (by kernel_rfl) rfl #[.slice A0 l0.length c0] rfl (by (try simp only [List.map_toArray, List.map_cons, List.map_nil]); first | done | rfl | (simp only [List.length_drop, List.length_take]; rfl)) ?_; (with_reducible refine (sidingref13_Long.calls k _ _ l0 false _ ?side1 ?side2 A8.out).mono ?_); (case side1 => repeat (first | exact (Kd.C_below HR0.out HB.out) | (with_reducible refine Kd.C_alloc ?_ _) | (with_reducible refine Kd.C_drewN ?_ _) | (with_reducible refine Kd.C_drew ?_))); (case side2 => exact HC0.out); rintro e w' ⟨rfl, ⟨nd, rfl⟩⟩; refine ⟨_, rfl, ?_⟩) | (go_at_call 9; (with_reducible refine (sidingref13_Long.calls k _ _ l1 false _ ?side1 ?side2 A10.out).mono ?_); (case side1 => repeat (first | exact (Kd.C_below HR1.out (by repeat (first | (with_reducible first | exact HB.out | apply below_alloc | apply pw_below_drewN | apply below_drew1) | exact HB.out))) | (with_reducible refine Kd.C_alloc ?_ _) | (with_reducible refine Kd.C_drewN ?_ _) | (with_reducible refine Kd.C_drew ?_))); (case side2 => exact HC1.out); rintro e w' ⟨rfl, ⟨nd, rfl⟩⟩) | (go_at_call 10; (with_reducible refine (sidingref13_Lines.calls k _ _ l0 t228 _ ?side1 ?side2 A12.out).mono ?_); (case side1 => repeat (first | exact (Kd.C_below HR0.out (by repeat (first | (with_reducible first | exact HB.out | apply below_alloc | apply pw_below_drewN | apply below_drew1) | exact HB.out))) | (with_reducible refine Kd.C_alloc ?_ _) | (with_reducible refine Kd.C_drewN ?_ _) | (with_reducible refine Kd.C_drew ?_))); (case side2 => exact HC0.out); rintro e w16 ⟨rfl, hb⟩; have n0_ := Aside0.mk (below_step (by repeat (first | (with_reducible first | exact HB.out | apply below_alloc | apply pw_below_drewN | apply below_drew1) | exact HB.out)) hb); clear HB; have HB := n0_; clear n0_; (try clear hb); (try clear hb2); (try clear hk); (try clear hi)) | (go_at_call 10; (with_reducible refine (sidingref13_Lines.calls k _ _ l1 t229 _ ?side1 ?side2 A14.out).mono ?_); (case side1 => repeat (first | exact (Kd.C_below HR1.out HB.out) | (with_reducible refine Kd.C_alloc ?_ _) | (with_reducible refine Kd.C_drewN ?_ _) | (with_reducible refine Kd.C_drew ?_))); (case side2 => exact HC1.out); rintro e w17 ⟨rfl, hb⟩; have n0_ := Aside0.mk (below_step (by repeat (first | (with_reducible first | exact HB.out | apply below_alloc | apply pw_below_drewN | apply below_drew1) | exact HB.out)) hb); clear HB; have HB := n0_; clear n0_; (try clear hb); (try clear hb2); (try clear hk); (try clear hi)))
            go_meet
            case rel => exact ⟨_, (!t225), (by first | rfl | (simp; done) | (simp [*]; done)), H', ⟨by first | omega | exact Nat.le_refl _⟩, ⟨by repeat (first | (with_reducible first | exact HB.out | apply below_alloc | apply pw_below_drewN | apply below_drew1) | exact HB.out)⟩⟩
          · rw [if_neg c15] at H
            have c15b0 : (t229 == 0) = false := beq_eq_false_iff_ne.mpr c15
            have c15b1 : (t229 != 0) = true := bne_iff_ne.mpr c15
            have H' := Aside0.mk H
            clear H
            go_wp2_with (first | ((with_reducible refine gate_callee (f := 9) rfl ?_); refine goesL_ (some 19) rfl rfl Tryd.func9 (by kernel_rfl) rfl #[.slice A0 l0.length c0] rfl (by (try simp only [List.map_toArray, List.map_cons, List.map_nil]); first | done | rfl | (simp only [List.length_drop, List.length_take]; rfl)) ?_; (with_reducible refine (sidingref13_Long.calls k _ _ l0 false _ ?side1 ?side2 A8.out).mono ?_); (case side1 => repeat (first | exact (Kd.C_below HR0.out HB.out) | (with_reducible refine Kd.C_alloc ?_ _) | (with_reducible refine Kd.C_drewN ?_ _) | (with_reducible refine Kd.C_drew ?_))); (case side2 => exact HC0.out); rintro e w' ⟨rfl, ⟨nd, rfl⟩⟩; refine ⟨_, rfl, ?_⟩) | (go_at_call 9; (with_reducible refine (sidingref13_Long.calls k _ _ l1 false _ ?side1 ?side2 A10.out).mono ?_); (case side1 => repeat (first | exact (Kd.C_below HR1.out (by repeat (first | (with_reducible first | exact HB.out | apply below_alloc | apply pw_below_drewN | apply below_drew1) | exact HB.out))) | (with_reducible refine Kd.C_alloc ?_ _) | (with_reducible refine Kd.C_drewN ?_ _) | (with_reducible refine Kd.C_drew ?_))); (case side2 => exact HC1.out); rintro e w' ⟨rfl, ⟨nd, rfl⟩⟩) | (go_at_call 10; (with_reducible refine (sidingref13_Lines.calls k _ _ l0 t228 _ ?side1 ?side2 A12.out).mono ?_); (case side1 => repeat (first | exact (Kd.C_below HR0.out (by repeat (first | (with_reducible first | exact HB.out | apply below_alloc | apply pw_below_drewN | apply below_drew1) | exact HB.out))) | (with_reducible refine Kd.C_alloc ?_ _) | (with_reducible refine Kd.C_drewN ?_ _) | (with_reducible refine Kd.C_drew ?_))); (case side2 => exact HC0.out); rintro e w18 ⟨rfl, hb⟩; have n0_ := Aside0.mk (below_step (by repeat (first | (with_reducible first | exact HB.out | apply below_alloc | apply pw_below_drewN | apply below_drew1) | exact HB.out)) hb); clear HB; have HB := n0_; clear n0_; (try clear hb); (try clear hb2); (try clear hk); (try clear hi)) | (go_at_call 10; (with_reducible refine (sidingref13_Lines.calls k _ _ l1 t229 _ ?side1 ?side2 A14.out).mono ?_); (case side1 => repeat (first | exact (Kd.C_below HR1.out HB.out) | (with_reducible refine Kd.C_alloc ?_ _) | (with_reducible refine Kd.C_drewN ?_ _) | (with_reducible refine Kd.C_drew ?_))); (case side2 => exact HC1.out); rintro e w19 ⟨rfl, hb⟩; have n0_ := Aside0.mk (below_step (by repeat (first | (with_reducible first | exact HB.out | apply below_alloc | apply pw_below_drewN | apply below_drew1) | exact HB.out)) hb); clear HB; have HB := n0_; clear n0_; (try clear hb); (try clear hb2); (try clear hk); (try clear hi)))
            go_meet
            case rel => exact ⟨_, (true), (by first | rfl | (simp; done) | (simp [*]; done)), H', ⟨by first | omega | exact Nat.le_refl _⟩, ⟨by repeat (first | (with_reducible first | exact HB.out | apply below_alloc | apply pw_below_drewN | apply below_drew1) | exact HB.out)⟩⟩
        · rw [if_neg c13] at H
          have c13b0 : (t228 == 0) = false := beq_eq_false_iff_ne.mpr c13
          have c13b1 : (t228 != 0) = true := bne_iff_ne.mpr c13
          (first | rw [c13b0] | (simp only [i64_w, i32_w]; rw [c13b0]) | skip)
          have H' := Aside0.mk H
          clear H
          go_wp2_with (first | ((with_reducible refine gate_callee (f := 9) rfl ?_); refine goesL_ (some 19) rfl rfl Tryd.func9 (by kernel_rfl) rfl #[.slice A0 l0.length c0] rfl (by (try simp only [List.map_toArray, List.map_cons, List.map_nil]); first | done | rfl | (simp only [List.length_drop, List.length_take]; rfl)) ?_; (with_reducible refine (sidingref13_Long.calls k _ _ l0 false _ ?side1 ?side2 A8.out).mono ?_); (case side1 => repeat (first | exact (Kd.C_below HR0.out HB.out) | (with_reducible refine Kd.C_alloc ?_ _) | (with_reducible refine Kd.C_drewN ?_ _) | (with_reducible refine Kd.C_drew ?_))); (case side2 => exact HC0.out); rintro e w' ⟨rfl, ⟨nd, rfl⟩⟩; refine ⟨_, rfl, ?_⟩) | (go_at_call 9; (with_reducible refine (sidingref13_Long.calls k _ _ l1 false _ ?side1 ?side2 A10.out).mono ?_); (case side1 => repeat (first | exact (Kd.C_below HR1.out (by repeat (first | (with_reducible first | exact HB.out | apply below_alloc | apply pw_below_drewN | apply below_drew1) | exact HB.out))) | (with_reducible refine Kd.C_alloc ?_ _) | (with_reducible refine Kd.C_drewN ?_ _) | (with_reducible refine Kd.C_drew ?_))); (case side2 => exact HC1.out); rintro e w' ⟨rfl, ⟨nd, rfl⟩⟩) | (go_at_call 10; (with_reducible refine (sidingref13_Lines.calls k _ _ l0 t228 _ ?side1 ?side2 A12.out).mono ?_); (case side1 => repeat (first | exact (Kd.C_below HR0.out (by repeat (first | (with_reducible first | exact HB.out | apply below_alloc | apply pw_below_drewN | apply below_drew1) | exact HB.out))) | (with_reducible refine Kd.C_alloc ?_ _) | (with_reducible refine Kd.C_drewN ?_ _) | (with_reducible refine Kd.C_drew ?_))); (case side2 => exact HC0.out); rintro e w20 ⟨rfl, hb⟩; have n0_ := Aside0.mk (below_step (by repeat (first | (with_reducible first | exact HB.out | apply below_alloc | apply pw_below_drewN | apply below_drew1) | exact HB.out)) hb); clear HB; have HB := n0_; clear n0_; (try clear hb); (try clear hb2); (try clear hk); (try clear hi)))
          go_meet
          case rel => exact ⟨_, (true), (by first | rfl | (simp; done) | (simp [*]; done)), H', ⟨by first | omega | exact Nat.le_refl _⟩, ⟨by repeat (first | (with_reducible first | exact HB.out | apply below_alloc | apply pw_below_drewN | apply below_drew1) | exact HB.out)⟩⟩
  case rest =>
    clear HC6
    try clear c1
    try clear p2
    try clear c4
    try clear c8
    try clear c9
    try clear c11
    try clear c13
    try clear c13b0
    try clear c13b1
    try clear c15
    try clear c15b0
    try clear c15b1
    obtain ⟨kq, x37_5, rfl, HA, HJ5, HB⟩ := hcut
    cases kq with
    | zero => exact absurd HA.out (by simp [sidinglaw13_LinesReplaces.j0])
    | succ kj5 =>
      have H := HA.out
      clear HA
      simp only [sidinglaw13_LinesReplaces.j0] at H
      by_cases c21 : x37_5 = true
      · subst c21
        have H1 : (some t225) = some r := by rw [if_pos rfl] at H; exact H
        clear H
        have H := H1
        clear H1
        obtain rfl := Option.some.inj H
        go_wp2
        go_ret
        exact ⟨by first | rfl | (simp [errW_none, errW_some] <;> rfl) | (simp [*, errW_none, errW_some] <;> rfl), by repeat (first | (with_reducible first | exact HB.out | apply below_alloc | apply pw_below_drewN | apply below_drew1) | exact HB.out)⟩
      · replace c21 := Bool.eq_false_iff.mpr c21
        subst c21
        have H1 : ((lines_Common.f kj5 l0 l1).bind fun bt230 => (if bt230.2.2 = 0 then (if bt230.1 < 0 then (sidinglaw13_LinesReplaces.j1 kj5 l0 l1 a2 a3 t225 bt230.1 bt230.2.1 true) else (if bt230.2.1 < 0 then (sidinglaw13_LinesReplaces.j1 kj5 l0 l1 a2 a3 t225 bt230.1 bt230.2.1 true) else (if (wrap64 (bt230.1 + bt230.2.1)) > (l0.length : Int) then (sidinglaw13_LinesReplaces.j1 kj5 l0 l1 a2 a3 t225 bt230.1 bt230.2.1 true) else (sidinglaw13_LinesReplaces.j1 kj5 l0 l1 a2 a3 t225 bt230.1 bt230.2.1 (decide ((wrap64 (bt230.1 + bt230.2.1)) > (l1.length : Int))))))) else (sidinglaw13_LinesReplaces.j1 kj5 l0 l1 a2 a3 t225 bt230.1 bt230.2.1 true))) = some r := by rw [if_neg (show ¬ (false = true) by decide)] at H; exact H
        clear H
        have H := H1
        clear H1
        replace H := Option.bind_eq_some_iff.mp H
        obtain ⟨⟨t230, t231, t232⟩, A220, H⟩ := H
        replace H : (if t232 = 0 then (if t230 < 0 then (sidinglaw13_LinesReplaces.j1 kj5 l0 l1 a2 a3 t225 t230 t231 true) else (if t231 < 0 then (sidinglaw13_LinesReplaces.j1 kj5 l0 l1 a2 a3 t225 t230 t231 true) else (if (wrap64 (t230 + t231)) > (l0.length : Int) then (sidinglaw13_LinesReplaces.j1 kj5 l0 l1 a2 a3 t225 t230 t231 true) else (sidinglaw13_LinesReplaces.j1 kj5 l0 l1 a2 a3 t225 t230 t231 (decide ((wrap64 (t230 + t231)) > (l1.length : Int))))))) else (sidinglaw13_LinesReplaces.j1 kj5 l0 l1 a2 a3 t225 t230 t231 true)) = some r := H
        have A22 := Aside0.mk A220
        clear A220
        have HC23 := Aside0.mk H
        clear H
        go_upto_region 5 with (first | ((with_reducible refine gate_callee (f := 11) rfl ?_); refine goesL_ (some 42) rfl rfl Tryd.func11 (by kernel_rfl) rfl #[.slice A0 l0.length c0, .slice A1 l1.length c1] rfl (by (try simp only [List.map_toArray, List.map_cons, List.map_nil]); first | done | rfl | (simp only [List.length_drop, List.length_take]; rfl)) ?_; (with_reducible refine (lines_Common.calls kj5 _ _ l0 _ _ l1 t230 t231 t232 _ ?side1 ?side2 ?side3 ?side4 A22.out).mono ?_); (case side1 => repeat (first | exact (Kd.C_below HR0.out HB.out) | (with_reducible refine Kd.C_alloc ?_ _) | (with_reducible refine Kd.C_drewN ?_ _) | (with_reducible refine Kd.C_drew ?_))); (case side2 => exact HC0.out); (case side3 => repeat (first | exact (Kd.C_below HR1.out HB.out) | (with_reducible refine Kd.C_alloc ?_ _) | (with_reducible refine Kd.C_drewN ?_ _) | (with_reducible refine Kd.C_drew ?_))); (case side4 => exact HC1.out); rintro e w24 ⟨rfl, hb⟩; refine ⟨_, rfl, ?_⟩; have n0_ := Aside0.mk (below_step (by repeat (first | (with_reducible first | exact HB.out | apply below_alloc | apply pw_below_drewN | apply below_drew1) | exact HB.out)) hb); clear HB; have HB := n0_; clear n0_; (try clear hb); (try clear hb2); (try clear hk); (try clear hi)))
        (try simp only [Act.put, List.setIfInBounds_toArray, List.set_cons_zero, List.set_cons_succ])
        go_cut [71] (fun v71 wc => ∃ (kq : Nat) (x71_22 : Bool), v71 = .bool x71_22 ∧ Aside0 (sidinglaw13_LinesReplaces.j1 kq l0 l1 a2 a3 t225 t230 t231 x71_22 = some r) ∧ Aside0 (kq ≤ kj5) ∧ Aside0 (Below w.heap.size w wc))
        case first =>
          have H := HC23.out
          clear HC23
          by_cases c25 : t232 = 0
          · rw [if_pos c25] at H
            have c25b0 : (t232 == 0) = true := beq_iff_eq.mpr c25
            have c25b1 : (t232 != 0) = false := bne_eq_false_iff_eq.mpr c25
            clear c25
            (first | rw [c25b0] | (simp only [i64_w, i32_w]; rw [c25b0]) | skip)
            by_cases c26 : t230 < 0
            · rw [if_pos c26] at H
              have c26b0 : decide (t230 < 0) = true := decide_eq_true c26
              clear c26
              have H' := Aside0.mk H
              clear H
              go_wp2
              go_meet
              case rel => exact ⟨_, (true), (by first | rfl | (simp; done) | (simp [*]; done)), H', ⟨by have := HJ5.out; first | omega | exact Nat.le_refl _⟩, ⟨by repeat (first | (with_reducible first | exact HB.out | apply below_alloc | apply pw_below_drewN | apply below_drew1) | exact HB.out)⟩⟩
            · rw [if_neg c26] at H
              have c26b0 : decide (t230 < 0) = false := decide_eq_false c26
              clear c26
              by_cases c27 : t231 < 0
              · rw [if_pos c27] at H
                have c27b0 : decide (t231 < 0) = true := decide_eq_true c27
                clear c27
                have H' := Aside0.mk H
                clear H
                go_wp2
                go_meet
                case rel => exact ⟨_, (true), (by first | rfl | (simp; done) | (simp [*]; done)), H', ⟨by have := HJ5.out; first | omega | exact Nat.le_refl _⟩, ⟨by repeat (first | (with_reducible first | exact HB.out | apply below_alloc | apply pw_below_drewN | apply below_drew1) | exact HB.out)⟩⟩
              · rw [if_neg c27] at H
                have c27b0 : decide (t231 < 0) = false := decide_eq_false c27
                clear c27
                by_cases c28 : (wrap64 (t230 + t231)) > (l0.length : Int)
                · rw [if_pos c28] at H
                  have c28b0 : decide ((l0.length : Int) < (wrap64 (t230 + t231))) = true := decide_eq_true c28
                  clear c28
                  have H' := Aside0.mk H
                  clear H
                  go_wp2
                  go_meet
                  case rel => exact ⟨_, (true), (by first | rfl | (simp; done) | (simp [*]; done)), H', ⟨by have := HJ5.out; first | omega | exact Nat.le_refl _⟩, ⟨by repeat (first | (with_reducible first | exact HB.out | apply below_alloc | apply pw_below_drewN | apply below_drew1) | exact HB.out)⟩⟩
                · rw [if_neg c28] at H
                  have c28b0 : decide ((l0.length : Int) < (wrap64 (t230 + t231))) = false := decide_eq_false c28
                  clear c28
                  have H' := Aside0.mk H
                  clear H
                  go_wp2
                  go_meet
                  case rel => exact ⟨_, (decide ((wrap64 (t230 + t231)) > (l1.length : Int))), (by first | rfl | (simp; done) | (simp [*]; done)), H', ⟨by have := HJ5.out; first | omega | exact Nat.le_refl _⟩, ⟨by repeat (first | (with_reducible first | exact HB.out | apply below_alloc | apply pw_below_drewN | apply below_drew1) | exact HB.out)⟩⟩
          · rw [if_neg c25] at H
            have c25b0 : (t232 == 0) = false := beq_eq_false_iff_ne.mpr c25
            have c25b1 : (t232 != 0) = true := bne_iff_ne.mpr c25
            (first | rw [c25b0] | (simp only [i64_w, i32_w]; rw [c25b0]) | skip)
            have H' := Aside0.mk H
            clear H
            go_wp2
            go_meet
            case rel => exact ⟨_, (true), (by first | rfl | (simp; done) | (simp [*]; done)), H', ⟨by have := HJ5.out; first | omega | exact Nat.le_refl _⟩, ⟨by repeat (first | (with_reducible first | exact HB.out | apply below_alloc | apply pw_below_drewN | apply below_drew1) | exact HB.out)⟩⟩
        case rest =>
          clear HC23
          try clear c1
          try clear c2
          try clear p2
          try clear c4
          try clear p6
          try clear c8
          try clear c9
          try clear c11
          try clear c13
          try clear c13b0
          try clear c13b1
          try clear c15
          try clear c15b0
          try clear c15b1
          try clear c21
          try clear c25
          try clear c25b0
          try clear c25b1
          try clear c26
          try clear c26b0
          try clear c27
          try clear c27b0
          try clear c28
          try clear c28b0
          try clear p2
          obtain ⟨kq, x71_22, rfl, HA, HJ22, HB⟩ := hcut
          cases kq with
          | zero => exact absurd HA.out (by simp [sidinglaw13_LinesReplaces.j1])
          | succ kj22 =>
            have H := HA.out
            clear HA
            simp only [sidinglaw13_LinesReplaces.j1] at H
            by_cases c29 : x71_22 = true
            · subst c29
              have H1 : (some false) = some r := by rw [if_pos rfl] at H; exact H
              clear H
              have H := H1
              clear H1
              exact absurd ((Option.some.inj H).trans hr_.out) (by decide)
            · replace c29 := Bool.eq_false_iff.mpr c29
              subst c29
              have H1 : (if 0 ≤ t230 then (if t230 ≤ (wrap64 ((l1.length : Int) - t231)) then (if (wrap64 ((l1.length : Int) - t231)) ≤ (l1.length : Int) then ((lines_Replace.f kj22 l0 t230 (wrap64 ((l0.length : Int) - t231)) ((l1.take ((wrap64 ((l1.length : Int) - t231)) : Int).toNat).drop (t230 : Int).toNat)).bind fun bt234 => (if bt234.2 = 0 then ((sidingref13_Same.f kj22 bt234.1 l1).bind fun t238 => (sidinglaw13_LinesReplaces.j2 kj22 l0 a2 a3 t225 (!t238))) else (sidinglaw13_LinesReplaces.j2 kj22 l0 a2 a3 t225 true))) else (none)) else (none)) else (none)) = some r := by rw [if_neg (show ¬ (false = true) by decide)] at H; exact H
              clear H
              have H := H1
              clear H1
              by_cases c30 : 0 ≤ t230
              · rw [if_pos c30] at H
                have c30b0 := eq_true c30
                have c30b1 : decide (0 ≤ t230) = true := decide_eq_true c30
                clear c30
                by_cases c31 : t230 ≤ (wrap64 ((l1.length : Int) - t231))
                · rw [if_pos c31] at H
                  have c31b0 := eq_true c31
                  have c31b1 : decide (t230 ≤ (wrap64 ((l1.length : Int) - t231))) = true := decide_eq_true c31
                  clear c31
                  by_cases c32 : (wrap64 ((l1.length : Int) - t231)) ≤ (l1.length : Int)
                  · rw [if_pos c32] at H
                    have c32b0 := eq_true c32
                    have c32b1 : decide ((wrap64 ((l1.length : Int) - t231)) ≤ (l1.length : Int)) = true := decide_eq_true c32
                    (try have c32m := Aside0.mk (Nat.min_eq_left (Int.toNat_le.2 c32)))
                    clear c32
                    replace H := Option.bind_eq_some_iff.mp H
                    obtain ⟨⟨t234, t237⟩, A330, H⟩ := H
                    replace H : (if t237 = 0 then ((sidingref13_Same.f kj22 t234 l1).bind fun t238 => (sidinglaw13_LinesReplaces.j2 kj22 l0 a2 a3 t225 (!t238))) else (sidinglaw13_LinesReplaces.j2 kj22 l0 a2 a3 t225 true)) = some r := H
                    have A33 := Aside0.mk A330
                    clear A330
                    have HC34 := Aside0.mk H
                    clear H
                    obtain ⟨i035, hi035, _, hsz35, _⟩ := info_parts info9
                    obtain ⟨A35, hcut35, hA35, hC35⟩ := print_mid_of (P := Tryd.prog) Value.string (⟨#[]⟩ : ByteArray) 22 9 .i64 .i64 Tryd.underlying22 hi035 hsz35 A1 c1 l1 t230 (wrap64 ((l1.length : Int) - t231)) (of_decide_eq_true (by first | (with_reducible assumption) | assumption)) (by first | omega | exact of_decide_eq_true (by first | (with_reducible assumption) | assumption)) (of_decide_eq_true (by first | (with_reducible assumption) | assumption)) HC1.out
                    have HR233 := Aside0.mk (Kd.C_of_reads (h1 := fun _ => rfl) (hA35 _ (Kd.reads_of_C HR1.out)))
                    have HC233 := Aside0.mk hC35
                    clear hA35 hC35 hi035 hsz35
                    go_upto_region 8 with (first | ((with_reducible refine gate_callee (f := 13) rfl ?_); refine goesL_ (some 86) rfl rfl Tryd.func13 (by kernel_rfl) rfl #[.slice A0 l0.length c0, .int .i64 t230, .int .i64 (wrap64 ((l0.length : Int) - t231)), .slice A35 ((l1.take ((wrap64 ((l1.length : Int) - t231)) : Int).toNat).drop (t230 : Int).toNat).length (c1 - t230.toNat)] rfl (by (try simp only [List.map_toArray, List.map_cons, List.map_nil]); first | done | (rw [show ((l1.take ((wrap64 ((l1.length : Int) - t231)) : Int).toNat).drop (t230 : Int).toNat).length = ((wrap64 ((l1.length : Int) - t231)).toNat - t230.toNat) from (by rw [List.length_drop, List.length_take]; have h_ : ((wrap64 ((l1.length : Int) - t231)) : Int) ≤ (l1.length : Int) := of_decide_eq_true (by first | (with_reducible assumption) | assumption); omega)] <;> rfl) | rfl | (simp only [List.length_drop, List.length_take]; rfl)) ?_; (with_reducible refine (lines_Replace.calls kj22 (fun k_ => k_ < w.heap.size) _ _ l0 t230 (wrap64 ((l0.length : Int) - t231)) (fun k_ => k_ < w.heap.size) _ _ ((l1.take ((wrap64 ((l1.length : Int) - t231)) : Int).toNat).drop (t230 : Int).toNat) t234 t237 _ ?side1 ?side2 A33.out).mono ?_); (case side1 => exact Kd.V_mk HC0.out (Kd.F_below (Kd.C_F Kd.heap_string HR0.out) (by repeat (first | (with_reducible first | exact HB.out | apply below_alloc | apply pw_below_drewN | apply below_drew1) | exact HB.out)))); (case side2 => exact Kd.V_mk HC233.out (Kd.F_below (Kd.C_F Kd.heap_string HR233.out) (by repeat (first | (with_reducible first | exact HB.out | apply below_alloc | apply pw_below_drewN | apply below_drew1) | exact HB.out)))); rintro e w36 ⟨v235, rfl, ho0, hb⟩; refine ⟨_, rfl, ?_⟩; have n0_ := Aside0.mk (Kd.R_lower (Kd.R_mono (ok' := fun k_ => True) ho0 (fun _ hk_ => trivial)) (below_size (by repeat (first | (with_reducible first | exact HB.out | apply below_alloc | apply pw_below_drewN | apply below_drew1) | exact HB.out)))); have n1_ := Aside0.mk (below_step (by repeat (first | (with_reducible first | exact HB.out | apply below_alloc | apply pw_below_drewN | apply below_drew1) | exact HB.out)) hb); clear HB; have HO236 := n0_; have HB := n1_; clear n0_ n1_; (try clear hb); (try clear hb2); (try clear hk); (try clear hi); (try clear ho0)))
                    (try simp only [Act.put, List.setIfInBounds_toArray, List.set_cons_zero, List.set_cons_succ])
                    go_cut [96] (fun v96 wc => ∃ (kq : Nat) (x96_33 : Bool), v96 = .bool x96_33 ∧ Aside0 (sidinglaw13_LinesReplaces.j2 kq l0 a2 a3 t225 x96_33 = some r) ∧ Aside0 (kq ≤ kj22) ∧ Aside0 (Below w.heap.size w wc))
                    case first =>
                      have H := HC34.out
                      clear HC34
                      by_cases c37 : t237 = 0
                      · rw [if_pos c37] at H
                        have c37b0 : (t237 == 0) = true := beq_iff_eq.mpr c37
                        have c37b1 : (t237 != 0) = false := bne_eq_false_iff_eq.mpr c37
                        clear c37
                        (first | rw [c37b0] | (simp only [i64_w, i32_w]; rw [c37b0]) | skip)
                        replace H := Option.bind_eq_some_iff.mp H
                        obtain ⟨t238, A380, H⟩ := H
                        replace H : (sidinglaw13_LinesReplaces.j2 kj22 l0 a2 a3 t225 (!t238)) = some r := H
                        have A38 := Aside0.mk A380
                        clear A380
                        have H' := Aside0.mk H
                        clear H
                        obtain ⟨Ao39, co39, eo39⟩ := Kd.R_slice HO236.out
                        subst eo39
                        go_wp2_with (first | (go_at_call 12; (with_reducible refine (sidingref13_Same.calls kj22 _ _ t234 _ _ l1 t238 _ ?side1 ?side2 ?side3 ?side4 A38.out).mono ?_); (case side1 => repeat (first | exact (Kd.R_reads' HO236.out).2.2 | (with_reducible refine Kd.C_alloc ?_ _) | (with_reducible refine Kd.C_drewN ?_ _) | (with_reducible refine Kd.C_drew ?_))); (case side2 => exact (Kd.R_reads' HO236.out).2.1); (case side3 => repeat (first | exact (Kd.C_below HR1.out HB.out) | (with_reducible refine Kd.C_alloc ?_ _) | (with_reducible refine Kd.C_drewN ?_ _) | (with_reducible refine Kd.C_drew ?_))); (case side4 => exact HC1.out); rintro e w' ⟨rfl, ⟨nd, rfl⟩⟩))
                        go_meet
                        case rel => exact ⟨_, (!t238), (by first | rfl | (simp; done) | (simp [*]; done)), H', ⟨by have := HJ5.out; have := HJ22.out; first | omega | exact Nat.le_refl _⟩, ⟨by repeat (first | (with_reducible first | exact HB.out | apply below_alloc | apply pw_below_drewN | apply below_drew1) | exact HB.out)⟩⟩
                      · rw [if_neg c37] at H
                        have c37b0 : (t237 == 0) = false := beq_eq_false_iff_ne.mpr c37
                        have c37b1 : (t237 != 0) = true := bne_iff_ne.mpr c37
                        (first | rw [c37b0] | (simp only [i64_w, i32_w]; rw [c37b0]) | skip)
                        have H' := Aside0.mk H
                        clear H
                        go_wp2
                        go_meet
                        case rel => exact ⟨_, (true), (by first | rfl | (simp; done) | (simp [*]; done)), H', ⟨by have := HJ5.out; have := HJ22.out; first | omega | exact Nat.le_refl _⟩, ⟨by repeat (first | (with_reducible first | exact HB.out | apply below_alloc | apply pw_below_drewN | apply below_drew1) | exact HB.out)⟩⟩
                    case rest =>
                      clear HC34
                      try clear c1
                      try clear c2
                      try clear p2
                      try clear c3
                      try clear c4
                      try clear p6
                      try clear c8
                      try clear c9
                      try clear c11
                      try clear c13
                      try clear c13b0
                      try clear c13b1
                      try clear c15
                      try clear c15b0
                      try clear c15b1
                      try clear c21
                      try clear c25
                      try clear c25b0
                      try clear c25b1
                      try clear c26
                      try clear c26b0
                      try clear c27
                      try clear c27b0
                      try clear c28
                      try clear c28b0
                      try clear c29
                      try clear c30
                      try clear c30b0
                      try clear c30b1
                      try clear c31
                      try clear c31b0
                      try clear c31b1
                      try clear c32
                      try clear c32b0
                      try clear c32b1
                      try clear c37
                      try clear c37b0
                      try clear c37b1
                      try clear p2
                      try clear p6
                      obtain ⟨kq, x96_33, rfl, HA, HJ33, HB⟩ := hcut
                      cases kq with
                      | zero => exact absurd HA.out (by simp [sidinglaw13_LinesReplaces.j2])
                      | succ kj33 =>
                        have H := HA.out
                        clear HA
                        simp only [sidinglaw13_LinesReplaces.j2] at H
                        by_cases c40 : x96_33 = true
                        · subst c40
                          have H1 : (some false) = some r := by rw [if_pos rfl] at H; exact H
                          clear H
                          have H := H1
                          clear H1
                          exact absurd ((Option.some.inj H).trans hr_.out) (by decide)
                        · replace c40 := Bool.eq_false_iff.mpr c40
                          subst c40
                          have H1 : (if a2 < 0 then (sidinglaw13_LinesReplaces.j3 kj33 l0 a2 a3 t225 true) else (if a3 < a2 then (sidinglaw13_LinesReplaces.j3 kj33 l0 a2 a3 t225 true) else (sidinglaw13_LinesReplaces.j3 kj33 l0 a2 a3 t225 (decide (a3 > (l0.length : Int)))))) = some r := by rw [if_neg (show ¬ (false = true) by decide)] at H; exact H
                          clear H
                          have H := H1
                          clear H1
                          have HC41 := Aside0.mk H
                          clear H
                          go_upto_region 10 with (fail)
                          go_cut [109] (fun v109 wc => ∃ (kq : Nat) (x109_40 : Bool), v109 = .bool x109_40 ∧ Aside0 (sidinglaw13_LinesReplaces.j3 kq l0 a2 a3 t225 x109_40 = some r) ∧ Aside0 (kq ≤ kj33) ∧ Aside0 (Below w.heap.size w wc))
                          case first =>
                            have H := HC41.out
                            clear HC41
                            by_cases c42 : a2 < 0
                            · rw [if_pos c42] at H
                              have c42b0 : decide (a2 < 0) = true := decide_eq_true c42
                              clear c42
                              (first | rw [c42b0] | (simp only [i64_w, i32_w]; rw [c42b0]) | skip)
                              have H' := Aside0.mk H
                              clear H
                              go_wp2
                              go_meet
                              case rel => exact ⟨_, (true), (by first | rfl | (simp; done) | (simp [*]; done)), H', ⟨by have := HJ5.out; have := HJ22.out; have := HJ33.out; first | omega | exact Nat.le_refl _⟩, ⟨by repeat (first | (with_reducible first | exact HB.out | apply below_alloc | apply pw_below_drewN | apply below_drew1) | exact HB.out)⟩⟩
                            · rw [if_neg c42] at H
                              have c42b0 : decide (a2 < 0) = false := decide_eq_false c42
                              clear c42
                              (first | rw [c42b0] | (simp only [i64_w, i32_w]; rw [c42b0]) | skip)
                              by_cases c43 : a3 < a2
                              · rw [if_pos c43] at H
                                have c43b0 : decide (a3 < a2) = true := decide_eq_true c43
                                clear c43
                                have H' := Aside0.mk H
                                clear H
                                go_wp2
                                go_meet
                                case rel => exact ⟨_, (true), (by first | rfl | (simp; done) | (simp [*]; done)), H', ⟨by have := HJ5.out; have := HJ22.out; have := HJ33.out; first | omega | exact Nat.le_refl _⟩, ⟨by repeat (first | (with_reducible first | exact HB.out | apply below_alloc | apply pw_below_drewN | apply below_drew1) | exact HB.out)⟩⟩
                              · rw [if_neg c43] at H
                                have c43b0 : decide (a3 < a2) = false := decide_eq_false c43
                                clear c43
                                have H' := Aside0.mk H
                                clear H
                                go_wp2
                                go_meet
                                case rel => exact ⟨_, (decide (a3 > (l0.length : Int))), (by first | rfl | (simp; done) | (simp [*]; done)), H', ⟨by have := HJ5.out; have := HJ22.out; have := HJ33.out; first | omega | exact Nat.le_refl _⟩, ⟨by repeat (first | (with_reducible first | exact HB.out | apply below_alloc | apply pw_below_drewN | apply below_drew1) | exact HB.out)⟩⟩
                          case rest =>
                            clear HC41
                            try clear c1
                            try clear c2
                            try clear p2
                            try clear c3
                            try clear c4
                            try clear p6
                            try clear c8
                            try clear c9
                            try clear c11
                            try clear c13
                            try clear c13b0
                            try clear c13b1
                            try clear c15
                            try clear c15b0
                            try clear c15b1
                            try clear c21
                            try clear c25
                            try clear c25b0
                            try clear c25b1
                            try clear c26
                            try clear c26b0
                            try clear c27
                            try clear c27b0
                            try clear c28
                            try clear c28b0
                            try clear c29
                            try clear c30
                            try clear c30b0
                            try clear c30b1
                            try clear c31
                            try clear c31b0
                            try clear c31b1
                            try clear c32
                            try clear c32b0
                            try clear c32b1
                            try clear c37
                            try clear c37b0
                            try clear c37b1
                            try clear c40
                            try clear c42
                            try clear c42b0
                            try clear c43
                            try clear c43b0
                            try clear p2
                            try clear p6
                            obtain ⟨kq, x109_40, rfl, HA, HJ40, HB⟩ := hcut
                            cases kq with
                            | zero => exact absurd HA.out (by simp [sidinglaw13_LinesReplaces.j3])
                            | succ kj40 =>
                              have H := HA.out
                              clear HA
                              simp only [sidinglaw13_LinesReplaces.j3] at H
                              by_cases c44 : x109_40 = true
                              · subst c44
                                have H1 : (some t225) = some r := by rw [if_pos rfl] at H; exact H
                                clear H
                                have H := H1
                                clear H1
                                obtain rfl := Option.some.inj H
                                go_wp2
                                go_ret
                                exact ⟨by first | rfl | (simp [errW_none, errW_some] <;> rfl) | (simp [*, errW_none, errW_some] <;> rfl), by repeat (first | (with_reducible first | exact HB.out | apply below_alloc | apply pw_below_drewN | apply below_drew1) | exact HB.out)⟩
                              · replace c44 := Bool.eq_false_iff.mpr c44
                                subst c44
                                have H1 : (if 0 ≤ a2 then (if a2 ≤ a3 then (if a3 ≤ (l0.length : Int) then ((lines_Replace.f kj40 l0 a2 a3 ((l0.take (a3 : Int).toNat).drop (a2 : Int).toNat)).bind fun bt240 => (if t225 = true then (if bt240.2 = 0 then ((sidingref13_Same.f kj40 bt240.1 l0).bind fun t244 => (some t244)) else (some false)) else (some false))) else (none)) else (none)) else (none)) = some r := by rw [if_neg (show ¬ (false = true) by decide)] at H; exact H
                                clear H
                                have H := H1
                                clear H1
                                by_cases c45 : 0 ≤ a2
                                · rw [if_pos c45] at H
                                  have c45b0 := eq_true c45
                                  have c45b1 : decide (0 ≤ a2) = true := decide_eq_true c45
                                  clear c45
                                  by_cases c46 : a2 ≤ a3
                                  · rw [if_pos c46] at H
                                    have c46b0 := eq_true c46
                                    have c46b1 : decide (a2 ≤ a3) = true := decide_eq_true c46
                                    clear c46
                                    by_cases c47 : a3 ≤ (l0.length : Int)
                                    · rw [if_pos c47] at H
                                      have c47b0 := eq_true c47
                                      have c47b1 : decide (a3 ≤ (l0.length : Int)) = true := decide_eq_true c47
                                      (try have c47m := Aside0.mk (Nat.min_eq_left (Int.toNat_le.2 c47)))
                                      clear c47
                                      replace H := Option.bind_eq_some_iff.mp H
                                      obtain ⟨⟨t240, t243⟩, A480, H⟩ := H
                                      replace H : (if t225 = true then (if t243 = 0 then ((sidingref13_Same.f kj40 t240 l0).bind fun t244 => (some t244)) else (some false)) else (some false)) = some r := H
                                      have A48 := Aside0.mk A480
                                      clear A480
                                      by_cases c49 : t225 = true
                                      · subst c49
                                        have H1 : (if t243 = 0 then ((sidingref13_Same.f kj40 t240 l0).bind fun t244 => (some t244)) else (some false)) = some r := by rw [if_pos rfl] at H; exact H
                                        clear H
                                        have H := H1
                                        clear H1
                                        by_cases c50 : t243 = 0
                                        · rw [if_pos c50] at H
                                          have c50b0 : (t243 == 0) = true := beq_iff_eq.mpr c50
                                          have c50b1 : (t243 != 0) = false := bne_eq_false_iff_eq.mpr c50
                                          clear c50
                                          replace H := Option.bind_eq_some_iff.mp H
                                          obtain ⟨t244, A510, H⟩ := H
                                          replace H : (some t244) = some r := H
                                          have A51 := Aside0.mk A510
                                          clear A510
                                          obtain rfl := Option.some.inj H
                                          obtain ⟨i052, hi052, _, hsz52, _⟩ := info_parts info9
                                          obtain ⟨A52, hcut52, hA52, hC52⟩ := print_mid_of (P := Tryd.prog) Value.string (⟨#[]⟩ : ByteArray) 22 9 .i64 .i64 Tryd.underlying22 hi052 hsz52 A0 c0 l0 a2 a3 (of_decide_eq_true (by first | (with_reducible assumption) | assumption)) (by first | omega | exact of_decide_eq_true (by first | (with_reducible assumption) | assumption)) (of_decide_eq_true (by first | (with_reducible assumption) | assumption)) HC0.out
                                          have HR239 := Aside0.mk (Kd.C_of_reads (h1 := fun _ => rfl) (hA52 _ (Kd.reads_of_C HR0.out)))
                                          have HC239 := Aside0.mk hC52
                                          clear hA52 hC52 hi052 hsz52
                                          go_wp2_with (first | ((with_reducible refine gate_callee (f := 13) rfl ?_); refine goesL_ (some 119) rfl rfl Tryd.func13 (by kernel_rfl) rfl #[.slice A0 l0.length c0, .int .i64 a2, .int .i64 a3, .slice A52 ((l0.take (a3 : Int).toNat).drop (a2 : Int).toNat).length (c0 - a2.toNat)] rfl (by (try simp only [List.map_toArray, List.map_cons, List.map_nil]); first | done | (rw [show ((l0.take (a3 : Int).toNat).drop (a2 : Int).toNat).length = (a3.toNat - a2.toNat) from (by rw [List.length_drop, List.length_take]; have h_ : (a3 : Int) ≤ (l0.length : Int) := of_decide_eq_true (by first | (with_reducible assumption) | assumption); omega)] <;> rfl) | rfl | (simp only [List.length_drop, List.length_take]; rfl)) ?_; (with_reducible refine (lines_Replace.calls kj40 (fun k_ => k_ < w.heap.size) _ _ l0 a2 a3 (fun k_ => k_ < w.heap.size) _ _ ((l0.take (a3 : Int).toNat).drop (a2 : Int).toNat) t240 t243 _ ?side1 ?side2 A48.out).mono ?_); (case side1 => exact Kd.V_mk HC0.out (Kd.F_below (Kd.C_F Kd.heap_string HR0.out) (by repeat (first | (with_reducible first | exact HB.out | apply below_alloc | apply pw_below_drewN | apply below_drew1) | exact HB.out)))); (case side2 => exact Kd.V_mk HC239.out (Kd.F_below (Kd.C_F Kd.heap_string HR239.out) (by repeat (first | (with_reducible first | exact HB.out | apply below_alloc | apply pw_below_drewN | apply below_drew1) | exact HB.out)))); rintro e w53 ⟨v241, rfl, ho0, hb⟩; refine ⟨_, rfl, ?_⟩; have n0_ := Aside0.mk (Kd.R_lower (Kd.R_mono (ok' := fun k_ => True) ho0 (fun _ hk_ => trivial)) (below_size (by repeat (first | (with_reducible first | exact HB.out | apply below_alloc | apply pw_below_drewN | apply below_drew1) | exact HB.out)))); have n1_ := Aside0.mk (below_step (by repeat (first | (with_reducible first | exact HB.out | apply below_alloc | apply pw_below_drewN | apply below_drew1) | exact HB.out)) hb); clear HB; have HO242 := n0_; have HB := n1_; clear n0_ n1_; (try clear hb); (try clear hb2); (try clear hk); (try clear hi); (try clear ho0); obtain ⟨Ao54, co54, eo54⟩ := Kd.R_slice HO242.out; subst eo54) | (go_at_call 12; (with_reducible refine (sidingref13_Same.calls kj40 _ _ t240 _ _ l0 t244 _ ?side1 ?side2 ?side3 ?side4 A51.out).mono ?_); (case side1 => repeat (first | exact (Kd.R_reads' HO242.out).2.2 | (with_reducible refine Kd.C_alloc ?_ _) | (with_reducible refine Kd.C_drewN ?_ _) | (with_reducible refine Kd.C_drew ?_))); (case side2 => exact (Kd.R_reads' HO242.out).2.1); (case side3 => repeat (first | exact (Kd.C_below HR0.out HB.out) | (with_reducible refine Kd.C_alloc ?_ _) | (with_reducible refine Kd.C_drewN ?_ _) | (with_reducible refine Kd.C_drew ?_))); (case side4 => exact HC0.out); rintro e w' ⟨rfl, ⟨nd, rfl⟩⟩))
                                          go_ret
                                          exact ⟨by first | rfl | (simp [errW_none, errW_some] <;> rfl) | (simp [*, errW_none, errW_some] <;> rfl), by repeat (first | (with_reducible first | exact HB.out | apply below_alloc | apply pw_below_drewN | apply below_drew1) | exact HB.out)⟩
                                        · rw [if_neg c50] at H
                                          have c50b0 : (t243 == 0) = false := beq_eq_false_iff_ne.mpr c50
                                          have c50b1 : (t243 != 0) = true := bne_iff_ne.mpr c50
                                          exact absurd ((Option.some.inj H).trans hr_.out) (by decide)
                                      · replace c49 := Bool.eq_false_iff.mpr c49
                                        subst c49
                                        have H1 : (some false) = some r := by rw [if_neg (show ¬ (false = true) by decide)] at H; exact H
                                        clear H
                                        have H := H1
                                        clear H1
                                        exact absurd ((Option.some.inj H).trans hr_.out) (by decide)
                                    · rw [if_neg c47] at H
                                      exact absurd H (by simp)
                                  · rw [if_neg c46] at H
                                    exact absurd H (by simp)
                                · rw [if_neg c45] at H
                                  exact absurd H (by simp)
                  · rw [if_neg c32] at H
                    exact absurd H (by simp)
                · rw [if_neg c31] at H
                  exact absurd H (by simp)
              · rw [if_neg c30] at H
                exact absurd H (by simp)
def sidinglaw13_LinesReplaces.Pure : Prop := ∀ (l0 : List ByteArray) (l1 : List ByteArray) (a2 : Int) (a3 : Int), (l0.length * 16 ≤ 140737488351232 ∧ ∀ x0_ ∈ l0, x0_.size ≤ 140737488351232) → (l1.length * 16 ≤ 140737488351232 ∧ ∀ x0_ ∈ l1, x0_.size ≤ 140737488351232) → ((Lit.int .i64 a2).wf = true) → ((Lit.int .i64 a3).wf = true) → ∃ k, sidinglaw13_LinesReplaces.f k l0 l1 a2 a3 = some true
theorem sidinglaw13_LinesReplaces.walk (P : sidinglaw13_LinesReplaces.Pure) (A0 : Option Addr) (c0 : Nat) (l0 : List ByteArray) (A1 : Option Addr) (c1 : Nat) (l1 : List ByteArray) (a2 : Int) (a3 : Int) (w : World) (hr0 : Kd.C Kd.string w A0 l0.length l0) (hc0 : l0.length ≤ c0) (hr1 : Kd.C Kd.string w A1 l1.length l1) (hc1 : l1.length ≤ c1) (hw0 : l0.length * 16 ≤ 140737488351232 ∧ ∀ x0_ ∈ l0, x0_.size ≤ 140737488351232) (hw1 : l1.length * 16 ≤ 140737488351232 ∧ ∀ x0_ ∈ l1, x0_.size ≤ 140737488351232) (hw2 : (Lit.int .i64 a2).wf = true) (hw3 : (Lit.int .i64 a3).wf = true) :
    Calls Tryd.prog 4 #[.slice A0 l0.length c0, .slice A1 l1.length c1, .int .i64 a2, .int .i64 a3] w fun e w' => e = .returned (.bool true) ∧ Below w.heap.size w w' := by
  obtain ⟨k, h⟩ := P l0 l1 a2 a3 hw0 hw1 hw2 hw3
  refine (sidinglaw13_LinesReplaces.calls k A0 c0 l0 A1 c1 l1 a2 a3 true w hr0 hc0 hr1 hc1 h ⟨rfl⟩).mono ?_
  rintro e w' ⟨rfl, hd⟩
  exact ⟨rfl, hd⟩

end Go.Proofs.YtiledjckdnkjgaaDoor.Pr
