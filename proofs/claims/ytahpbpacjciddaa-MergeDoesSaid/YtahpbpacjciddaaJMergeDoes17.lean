/- Part 17 of the proof of MergeDoes: texts put together. -/
import Derived.Test.YtahpbpacjciddaaJMergeDoes4
import Derived.Test.YtahpbpacjciddaaJMergeDoes5
import Derived.Test.YtahpbpacjciddaaJMergeDoes6
import Derived.Test.YtahpbpacjciddaaJMergeDoes11
import Derived.Test.YtahpbpacjciddaaJMergeDoes12
import Derived.Test.YtahpbpacjciddaaJMergeDoes13
import Derived.Test.YtahpbpacjciddaaJMergeDoes14
import Derived.Test.YtahpbpacjciddaaJMergeDoes16
section
namespace Go.Proofs.Ytahpbpacjciddaa.Pr
open Go.RowKit Go.Proofs.YtahpbpacjciddaaW.PrintWords Go.Proofs.YtahpbpacjciddaaW.PrintLast Go.Proofs.YtahpbpacjciddaaW.PrintMore
attribute [local go_sem] max2_int min2_int max_two min_two max_three min_three max_four min_four   
set_option linter.unusedVariables false
set_option linter.unusedSimpArgs false
def sidinglaw18_MergeDoes.f (k : Nat) (l0 : List ByteArray) (l1 : List ByteArray) (l2 : List ByteArray) : Option (Bool) := (sidinglaw18_long.f k l0 l1 l2).bind fun t118 => (if t118 = true then (some true) else ((some (([] : List ByteArray) : List ByteArray)).bind fun y119 => (if y119.length + l0.length < 8796093022208 then ((some (y119 ++ l0 : List ByteArray)).bind fun y122 => ((some (([] : List ByteArray) : List ByteArray)).bind fun y125 => (if y125.length + l1.length < 8796093022208 then ((some (y125 ++ l1 : List ByteArray)).bind fun y128 => ((some (([] : List ByteArray) : List ByteArray)).bind fun y131 => (if y131.length + l2.length < 8796093022208 then ((some (y131 ++ l2 : List ByteArray)).bind fun y134 => ((merge_Merge.f k y122 y128 y134).bind fun bt137 => ((ref18_Merge.f k l0 l1 l2).bind fun bt141 => ((sidingref18_Same.f k bt137.1 bt141.1).bind fun t145 => (if t145 = true then (if bt137.2 = bt141.2 then ((sidingref13_Same.f k y122 l0).bind fun t146 => (if t146 = true then ((sidingref13_Same.f k y128 l1).bind fun t147 => (if t147 = true then ((sidingref13_Same.f k y134 l2).bind fun t148 => (some t148)) else (some false))) else (some false))) else (some false)) else (some false)))))) else (none)))) else (none)))) else (none))))
theorem sidinglaw18_MergeDoes.mono : ∀ a0 a1 a2 k, LeO (sidinglaw18_MergeDoes.f k a0 a1 a2) (sidinglaw18_MergeDoes.f (k + 1) a0 a1 a2) := by
 intro a0 a1 a2 k
 unfold sidinglaw18_MergeDoes.f
 repeat' first
   | (with_reducible exact merge_Merge.mono _ _ _ _)
   | (with_reducible exact ref18_Merge.mono _ _ _ _)
   | (with_reducible exact sidinglaw18_long.mono _ _ _ _)
   | (with_reducible exact sidingref13_Same.mono _ _ _)
   | (with_reducible exact sidingref18_Same.mono _ _ _)
   | (with_reducible exact LeO.refl _)
   | (with_reducible exact LeO.none _)
   | (with_reducible refine LeO.ite ?_ ?_)
   | (with_reducible refine LeO.bind ?_ (fun _ => ?_))
   | exact merge_Merge.mono _ _ _ _
   | exact ref18_Merge.mono _ _ _ _
   | exact sidinglaw18_long.mono _ _ _ _
   | exact sidingref13_Same.mono _ _ _
   | exact sidingref18_Same.mono _ _ _
   | exact LeO.none _
   | refine LeO.ite ?_ ?_
   | refine LeO.bind ?_ (fun _ => ?_)
set_option maxHeartbeats 8000000 in
set_option maxRecDepth 100000 in
theorem sidinglaw18_MergeDoes.calls (k : Nat) (A0 : Option Addr) (c0 : Nat) (l0 : List ByteArray) (A1 : Option Addr) (c1 : Nat) (l1 : List ByteArray) (A2 : Option Addr) (c2 : Nat) (l2 : List ByteArray) (r : Bool) (w : World) (hr0 : Kd.C Kd.string w A0 l0.length l0) (hc0 : l0.length ≤ c0) (hr1 : Kd.C Kd.string w A1 l1.length l1) (hc1 : l1.length ≤ c1) (hr2 : Kd.C Kd.string w A2 l2.length l2) (hc2 : l2.length ≤ c2) (h : sidinglaw18_MergeDoes.f k l0 l1 l2 = some r) (hr_ : Aside0 (r = true)) :
  Calls Try.prog 3 #[.slice A0 l0.length c0, .slice A1 l1.length c1, .slice A2 l2.length c2] w fun e w' => e = .returned (.bool r) ∧ Below w.heap.size w w' := by
 have HR0 := Aside0.mk hr0
 have HC0 := Aside0.mk hc0
 clear hr0 hc0
 have HR1 := Aside0.mk hr1
 have HC1 := Aside0.mk hc1
 clear hr1 hc1
 have HR2 := Aside0.mk hr2
 have HC2 := Aside0.mk hc2
 clear hr2 hc2
 have HB := Aside0.mk (Below.refl w.heap.size w)
 have H : ((sidinglaw18_long.f k l0 l1 l2).bind fun t118 => (if t118 = true then (some true) else ((some (([] : List ByteArray) : List ByteArray)).bind fun y119 => (if y119.length + l0.length < 8796093022208 then ((some (y119 ++ l0 : List ByteArray)).bind fun y122 => ((some (([] : List ByteArray) : List ByteArray)).bind fun y125 => (if y125.length + l1.length < 8796093022208 then ((some (y125 ++ l1 : List ByteArray)).bind fun y128 => ((some (([] : List ByteArray) : List ByteArray)).bind fun y131 => (if y131.length + l2.length < 8796093022208 then ((some (y131 ++ l2 : List ByteArray)).bind fun y134 => ((merge_Merge.f k y122 y128 y134).bind fun bt137 => ((ref18_Merge.f k l0 l1 l2).bind fun bt141 => ((sidingref18_Same.f k bt137.1 bt141.1).bind fun t145 => (if t145 = true then (if bt137.2 = bt141.2 then ((sidingref13_Same.f k y122 l0).bind fun t146 => (if t146 = true then ((sidingref13_Same.f k y128 l1).bind fun t147 => (if t147 = true then ((sidingref13_Same.f k y134 l2).bind fun t148 => (some t148)) else (some false))) else (some false))) else (some false)) else (some false)))))) else (none)))) else (none)))) else (none))))) = some r := h
 clear h
 replace H := Option.bind_eq_some_iff.mp H
 obtain ⟨t118, A40, H⟩ := H
 replace H : (if t118 = true then (some true) else ((some (([] : List ByteArray) : List ByteArray)).bind fun y119 => (if y119.length + l0.length < 8796093022208 then ((some (y119 ++ l0 : List ByteArray)).bind fun y122 => ((some (([] : List ByteArray) : List ByteArray)).bind fun y125 => (if y125.length + l1.length < 8796093022208 then ((some (y125 ++ l1 : List ByteArray)).bind fun y128 => ((some (([] : List ByteArray) : List ByteArray)).bind fun y131 => (if y131.length + l2.length < 8796093022208 then ((some (y131 ++ l2 : List ByteArray)).bind fun y134 => ((merge_Merge.f k y122 y128 y134).bind fun bt137 => ((ref18_Merge.f k l0 l1 l2).bind fun bt141 => ((sidingref18_Same.f k bt137.1 bt141.1).bind fun t145 => (if t145 = true then (if bt137.2 = bt141.2 then ((sidingref13_Same.f k y122 l0).bind fun t146 => (if t146 = true then ((sidingref13_Same.f k y128 l1).bind fun t147 => (if t147 = true then ((sidingref13_Same.f k y134 l2).bind fun t148 => (some t148)) else (some false))) else (some false))) else (some false)) else (some false)))))) else (none)))) else (none)))) else (none)))) = some r := H
 have A4 := Aside0.mk A40
 clear A40
 by_cases c5 : t118 = true
 ·subst c5
  have H1 : (some true) = some r := by rw [if_pos rfl] at H; exact H
  clear H
  have H := H1
  clear H1
  obtain rfl := Option.some.inj H
  go_enter Try.func3, Try.ntmps3
  go_wp2_with (first | ((with_reducible refine gate_callee (f := 8) rfl ?_); refine goesL_ (some 17) rfl rfl Try.func8 (by kernel_rfl) rfl #[.slice A0 l0.length c0, .slice A1 l1.length c1, .slice A2 l2.length c2] rfl (by (try simp only [List.map_toArray, List.map_cons, List.map_nil]); first | done | rfl | (simp only [List.length_drop, List.length_take]; rfl)) ?_; (with_reducible refine (sidinglaw18_long.calls k _ _ l0 _ _ l1 _ _ l2 true _ ?side1 ?side2 ?side3 ?side4 ?side5 ?side6 A4.out).mono ?_); (case side1 => repeat (first | exact HR0.out | (with_reducible refine Kd.C_alloc ?_ _) | (with_reducible refine Kd.C_drewN ?_ _) | (with_reducible refine Kd.C_drew ?_))); (case side2 => exact HC0.out); (case side3 => repeat (first | exact HR1.out | (with_reducible refine Kd.C_alloc ?_ _) | (with_reducible refine Kd.C_drewN ?_ _) | (with_reducible refine Kd.C_drew ?_))); (case side4 => exact HC1.out); (case side5 => repeat (first | exact HR2.out | (with_reducible refine Kd.C_alloc ?_ _) | (with_reducible refine Kd.C_drewN ?_ _) | (with_reducible refine Kd.C_drew ?_))); (case side6 => exact HC2.out); rintro e w' ⟨rfl, ⟨nd, rfl⟩⟩; refine ⟨_, rfl, ?_⟩))
  go_ret
  exact ⟨by first | rfl | (simp [errW_none, errW_some] <;> rfl) | (simp [*, errW_none, errW_some] <;> rfl), by repeat (first | (with_reducible first | exact HB.out | apply below_alloc | apply pw_below_drewN | apply below_drew1) | exact HB.out)⟩
 ·replace c5 := Bool.eq_false_iff.mpr c5
  subst c5
  have H1 : ((some (([] : List ByteArray) : List ByteArray)).bind fun y119 => (if y119.length + l0.length < 8796093022208 then ((some (y119 ++ l0 : List ByteArray)).bind fun y122 => ((some (([] : List ByteArray) : List ByteArray)).bind fun y125 => (if y125.length + l1.length < 8796093022208 then ((some (y125 ++ l1 : List ByteArray)).bind fun y128 => ((some (([] : List ByteArray) : List ByteArray)).bind fun y131 => (if y131.length + l2.length < 8796093022208 then ((some (y131 ++ l2 : List ByteArray)).bind fun y134 => ((merge_Merge.f k y122 y128 y134).bind fun bt137 => ((ref18_Merge.f k l0 l1 l2).bind fun bt141 => ((sidingref18_Same.f k bt137.1 bt141.1).bind fun t145 => (if t145 = true then (if bt137.2 = bt141.2 then ((sidingref13_Same.f k y122 l0).bind fun t146 => (if t146 = true then ((sidingref13_Same.f k y128 l1).bind fun t147 => (if t147 = true then ((sidingref13_Same.f k y134 l2).bind fun t148 => (some t148)) else (some false))) else (some false))) else (some false)) else (some false)))))) else (none)))) else (none)))) else (none))) = some r := by rw [if_neg (show ¬ (false = true) by decide)] at H; exact H
  clear H
  have H := H1
  clear H1
  obtain ⟨y119, hy119⟩ : ∃ y_ : List ByteArray, y_ = (([] : List ByteArray)) := ⟨_, rfl⟩
  replace H : (if y119.length + l0.length < 8796093022208 then ((some (y119 ++ l0 : List ByteArray)).bind fun y122 => ((some (([] : List ByteArray) : List ByteArray)).bind fun y125 => (if y125.length + l1.length < 8796093022208 then ((some (y125 ++ l1 : List ByteArray)).bind fun y128 => ((some (([] : List ByteArray) : List ByteArray)).bind fun y131 => (if y131.length + l2.length < 8796093022208 then ((some (y131 ++ l2 : List ByteArray)).bind fun y134 => ((merge_Merge.f k y122 y128 y134).bind fun bt137 => ((ref18_Merge.f k l0 l1 l2).bind fun bt141 => ((sidingref18_Same.f k bt137.1 bt141.1).bind fun t145 => (if t145 = true then (if bt137.2 = bt141.2 then ((sidingref13_Same.f k y122 l0).bind fun t146 => (if t146 = true then ((sidingref13_Same.f k y128 l1).bind fun t147 => (if t147 = true then ((sidingref13_Same.f k y134 l2).bind fun t148 => (some t148)) else (some false))) else (some false))) else (some false)) else (some false)))))) else (none)))) else (none)))) else (none)) = some r := by first | (rw [hy119]; with_reducible exact H) | (have H2_ := (Option.bind_some _ _).symm.trans H; rw [hy119]; with_reducible exact H2_) | (have H2_ := (Option.bind_some _ _).symm.trans H; with_reducible exact H2_) | with_reducible exact H | (rw [hy119]; exact H) | exact H
  have Ny119 := Aside0.mk hy119
  clear hy119
  by_cases c6 : y119.length + l0.length < 8796093022208
  ·rw [if_pos c6] at H
   have LMc6 := Aside0.mk c6
   clear c6
   obtain ⟨y122, hy122⟩ : ∃ y_ : List ByteArray, y_ = (y119 ++ l0) := ⟨_, rfl⟩
   replace H : ((some (([] : List ByteArray) : List ByteArray)).bind fun y125 => (if y125.length + l1.length < 8796093022208 then ((some (y125 ++ l1 : List ByteArray)).bind fun y128 => ((some (([] : List ByteArray) : List ByteArray)).bind fun y131 => (if y131.length + l2.length < 8796093022208 then ((some (y131 ++ l2 : List ByteArray)).bind fun y134 => ((merge_Merge.f k y122 y128 y134).bind fun bt137 => ((ref18_Merge.f k l0 l1 l2).bind fun bt141 => ((sidingref18_Same.f k bt137.1 bt141.1).bind fun t145 => (if t145 = true then (if bt137.2 = bt141.2 then ((sidingref13_Same.f k y122 l0).bind fun t146 => (if t146 = true then ((sidingref13_Same.f k y128 l1).bind fun t147 => (if t147 = true then ((sidingref13_Same.f k y134 l2).bind fun t148 => (some t148)) else (some false))) else (some false))) else (some false)) else (some false)))))) else (none)))) else (none))) = some r := by first | (rw [hy122]; with_reducible exact H) | (have H2_ := (Option.bind_some _ _).symm.trans H; rw [hy122]; with_reducible exact H2_) | (have H2_ := (Option.bind_some _ _).symm.trans H; with_reducible exact H2_) | with_reducible exact H | (rw [hy122]; exact H) | exact H
   have Ny122 := Aside0.mk hy122
   clear hy122
   obtain ⟨y125, hy125⟩ : ∃ y_ : List ByteArray, y_ = (([] : List ByteArray)) := ⟨_, rfl⟩
   replace H : (if y125.length + l1.length < 8796093022208 then ((some (y125 ++ l1 : List ByteArray)).bind fun y128 => ((some (([] : List ByteArray) : List ByteArray)).bind fun y131 => (if y131.length + l2.length < 8796093022208 then ((some (y131 ++ l2 : List ByteArray)).bind fun y134 => ((merge_Merge.f k y122 y128 y134).bind fun bt137 => ((ref18_Merge.f k l0 l1 l2).bind fun bt141 => ((sidingref18_Same.f k bt137.1 bt141.1).bind fun t145 => (if t145 = true then (if bt137.2 = bt141.2 then ((sidingref13_Same.f k y122 l0).bind fun t146 => (if t146 = true then ((sidingref13_Same.f k y128 l1).bind fun t147 => (if t147 = true then ((sidingref13_Same.f k y134 l2).bind fun t148 => (some t148)) else (some false))) else (some false))) else (some false)) else (some false)))))) else (none)))) else (none)) = some r := by first | (rw [hy125]; with_reducible exact H) | (have H2_ := (Option.bind_some _ _).symm.trans H; rw [hy125]; with_reducible exact H2_) | (have H2_ := (Option.bind_some _ _).symm.trans H; with_reducible exact H2_) | with_reducible exact H | (rw [hy125]; exact H) | exact H
   have Ny125 := Aside0.mk hy125
   clear hy125
   by_cases c7 : y125.length + l1.length < 8796093022208
   ·rw [if_pos c7] at H
    have LMc7 := Aside0.mk c7
    clear c7
    obtain ⟨y128, hy128⟩ : ∃ y_ : List ByteArray, y_ = (y125 ++ l1) := ⟨_, rfl⟩
    replace H : ((some (([] : List ByteArray) : List ByteArray)).bind fun y131 => (if y131.length + l2.length < 8796093022208 then ((some (y131 ++ l2 : List ByteArray)).bind fun y134 => ((merge_Merge.f k y122 y128 y134).bind fun bt137 => ((ref18_Merge.f k l0 l1 l2).bind fun bt141 => ((sidingref18_Same.f k bt137.1 bt141.1).bind fun t145 => (if t145 = true then (if bt137.2 = bt141.2 then ((sidingref13_Same.f k y122 l0).bind fun t146 => (if t146 = true then ((sidingref13_Same.f k y128 l1).bind fun t147 => (if t147 = true then ((sidingref13_Same.f k y134 l2).bind fun t148 => (some t148)) else (some false))) else (some false))) else (some false)) else (some false)))))) else (none))) = some r := by first | (rw [hy128]; with_reducible exact H) | (have H2_ := (Option.bind_some _ _).symm.trans H; rw [hy128]; with_reducible exact H2_) | (have H2_ := (Option.bind_some _ _).symm.trans H; with_reducible exact H2_) | with_reducible exact H | (rw [hy128]; exact H) | exact H
    have Ny128 := Aside0.mk hy128
    clear hy128
    obtain ⟨y131, hy131⟩ : ∃ y_ : List ByteArray, y_ = (([] : List ByteArray)) := ⟨_, rfl⟩
    replace H : (if y131.length + l2.length < 8796093022208 then ((some (y131 ++ l2 : List ByteArray)).bind fun y134 => ((merge_Merge.f k y122 y128 y134).bind fun bt137 => ((ref18_Merge.f k l0 l1 l2).bind fun bt141 => ((sidingref18_Same.f k bt137.1 bt141.1).bind fun t145 => (if t145 = true then (if bt137.2 = bt141.2 then ((sidingref13_Same.f k y122 l0).bind fun t146 => (if t146 = true then ((sidingref13_Same.f k y128 l1).bind fun t147 => (if t147 = true then ((sidingref13_Same.f k y134 l2).bind fun t148 => (some t148)) else (some false))) else (some false))) else (some false)) else (some false)))))) else (none)) = some r := by first | (rw [hy131]; with_reducible exact H) | (have H2_ := (Option.bind_some _ _).symm.trans H; rw [hy131]; with_reducible exact H2_) | (have H2_ := (Option.bind_some _ _).symm.trans H; with_reducible exact H2_) | with_reducible exact H | (rw [hy131]; exact H) | exact H
    have Ny131 := Aside0.mk hy131
    clear hy131
    by_cases c8 : y131.length + l2.length < 8796093022208
    ·rw [if_pos c8] at H
     have LMc8 := Aside0.mk c8
     clear c8
     obtain ⟨y134, hy134⟩ : ∃ y_ : List ByteArray, y_ = (y131 ++ l2) := ⟨_, rfl⟩
     replace H : ((merge_Merge.f k y122 y128 y134).bind fun bt137 => ((ref18_Merge.f k l0 l1 l2).bind fun bt141 => ((sidingref18_Same.f k bt137.1 bt141.1).bind fun t145 => (if t145 = true then (if bt137.2 = bt141.2 then ((sidingref13_Same.f k y122 l0).bind fun t146 => (if t146 = true then ((sidingref13_Same.f k y128 l1).bind fun t147 => (if t147 = true then ((sidingref13_Same.f k y134 l2).bind fun t148 => (some t148)) else (some false))) else (some false))) else (some false)) else (some false))))) = some r := by first | (rw [hy134]; with_reducible exact H) | (have H2_ := (Option.bind_some _ _).symm.trans H; rw [hy134]; with_reducible exact H2_) | (have H2_ := (Option.bind_some _ _).symm.trans H; with_reducible exact H2_) | with_reducible exact H | (rw [hy134]; exact H) | exact H
     have Ny134 := Aside0.mk hy134
     clear hy134
     replace H := Option.bind_eq_some_iff.mp H
     obtain ⟨⟨t137, t138⟩, A90, H⟩ := H
     replace H : ((ref18_Merge.f k l0 l1 l2).bind fun bt141 => ((sidingref18_Same.f k t137 bt141.1).bind fun t145 => (if t145 = true then (if t138 = bt141.2 then ((sidingref13_Same.f k y122 l0).bind fun t146 => (if t146 = true then ((sidingref13_Same.f k y128 l1).bind fun t147 => (if t147 = true then ((sidingref13_Same.f k y134 l2).bind fun t148 => (some t148)) else (some false))) else (some false))) else (some false)) else (some false)))) = some r := H
     have A9 := Aside0.mk A90
     clear A90
     replace H := Option.bind_eq_some_iff.mp H
     obtain ⟨⟨t141, t142⟩, A100, H⟩ := H
     replace H : ((sidingref18_Same.f k t137 t141).bind fun t145 => (if t145 = true then (if t138 = t142 then ((sidingref13_Same.f k y122 l0).bind fun t146 => (if t146 = true then ((sidingref13_Same.f k y128 l1).bind fun t147 => (if t147 = true then ((sidingref13_Same.f k y134 l2).bind fun t148 => (some t148)) else (some false))) else (some false))) else (some false)) else (some false))) = some r := H
     have A10 := Aside0.mk A100
     clear A100
     replace H := Option.bind_eq_some_iff.mp H
     obtain ⟨t145, A110, H⟩ := H
     replace H : (if t145 = true then (if t138 = t142 then ((sidingref13_Same.f k y122 l0).bind fun t146 => (if t146 = true then ((sidingref13_Same.f k y128 l1).bind fun t147 => (if t147 = true then ((sidingref13_Same.f k y134 l2).bind fun t148 => (some t148)) else (some false))) else (some false))) else (some false)) else (some false)) = some r := H
     have A11 := Aside0.mk A110
     clear A110
     by_cases c12 : t145 = true
     ·subst c12
      have H1 : (if t138 = t142 then ((sidingref13_Same.f k y122 l0).bind fun t146 => (if t146 = true then ((sidingref13_Same.f k y128 l1).bind fun t147 => (if t147 = true then ((sidingref13_Same.f k y134 l2).bind fun t148 => (some t148)) else (some false))) else (some false))) else (some false)) = some r := by rw [if_pos rfl] at H; exact H
      clear H
      have H := H1
      clear H1
      by_cases c13 : t138 = t142
      ·rw [if_pos c13] at H
       have c13b0 : (t138 == t142) = true := beq_iff_eq.mpr c13
       have c13b1 : (t138 != t142) = false := bne_eq_false_iff_eq.mpr c13
       clear c13
       replace H := Option.bind_eq_some_iff.mp H
       obtain ⟨t146, A140, H⟩ := H
       replace H : (if t146 = true then ((sidingref13_Same.f k y128 l1).bind fun t147 => (if t147 = true then ((sidingref13_Same.f k y134 l2).bind fun t148 => (some t148)) else (some false))) else (some false)) = some r := H
       have A14 := Aside0.mk A140
       clear A140
       by_cases c15 : t146 = true
       ·subst c15
        have H1 : ((sidingref13_Same.f k y128 l1).bind fun t147 => (if t147 = true then ((sidingref13_Same.f k y134 l2).bind fun t148 => (some t148)) else (some false))) = some r := by rw [if_pos rfl] at H; exact H
        clear H
        have H := H1
        clear H1
        replace H := Option.bind_eq_some_iff.mp H
        obtain ⟨t147, A160, H⟩ := H
        replace H : (if t147 = true then ((sidingref13_Same.f k y134 l2).bind fun t148 => (some t148)) else (some false)) = some r := H
        have A16 := Aside0.mk A160
        (try have sameA16 := (Option.some.inj (A14.out.symm.trans A16.out) : t146 = t147))
        clear A160
        by_cases c17 : t147 = true
        ·subst c17
         have H1 : ((sidingref13_Same.f k y134 l2).bind fun t148 => (some t148)) = some r := by rw [if_pos rfl] at H; exact H
         clear H
         have H := H1
         clear H1
         replace H := Option.bind_eq_some_iff.mp H
         obtain ⟨t148, A180, H⟩ := H
         replace H : (some t148) = some r := H
         have A18 := Aside0.mk A180
         (try have sameA18 := (Option.some.inj (A16.out.symm.trans A18.out) : t147 = t148))
         clear A180
         obtain rfl := Option.some.inj H
         go_enter Try.func3, Try.ntmps3
         go_wp2_with (first | ((with_reducible refine gate_callee (f := 8) rfl ?_); refine goesL_ (some 17) rfl rfl Try.func8 (by kernel_rfl) rfl #[.slice A0 l0.length c0, .slice A1 l1.length c1, .slice A2 l2.length c2] rfl (by (try simp only [List.map_toArray, List.map_cons, List.map_nil]); first | done | rfl | (simp only [List.length_drop, List.length_take]; rfl)) ?_; (with_reducible refine (sidinglaw18_long.calls k _ _ l0 _ _ l1 _ _ l2 false _ ?side1 ?side2 ?side3 ?side4 ?side5 ?side6 A4.out).mono ?_); (case side1 => repeat (first | exact HR0.out | (with_reducible refine Kd.C_alloc ?_ _) | (with_reducible refine Kd.C_drewN ?_ _) | (with_reducible refine Kd.C_drew ?_))); (case side2 => exact HC0.out); (case side3 => repeat (first | exact HR1.out | (with_reducible refine Kd.C_alloc ?_ _) | (with_reducible refine Kd.C_drewN ?_ _) | (with_reducible refine Kd.C_drew ?_))); (case side4 => exact HC1.out); (case side5 => repeat (first | exact HR2.out | (with_reducible refine Kd.C_alloc ?_ _) | (with_reducible refine Kd.C_drewN ?_ _) | (with_reducible refine Kd.C_drew ?_))); (case side6 => exact HC2.out); rintro e w' ⟨rfl, ⟨nd, rfl⟩⟩; refine ⟨_, rfl, ?_⟩) | ((with_reducible refine gate_dst (N := 18) rfl ?_); refine Kd.R_lit Kd.string _ 9 ?hg (N := 18) ?hd (xs := ([] : List ByteArray)) (inner := []) (ok := fun _ => True) (okp := fun _ => True) ?hr ?hp (fun _ hk => hk) trivial (Below.refl _ _) (Nat.le_refl _) (by simp) ?_; (case hd => rfl); (case hg => rfl); (case hr => first | (go_simp; done) | (go_simp; rfl)); (case hp => exact (Reps.none _ _)); intro v120 w19 ho20 hb hg_ hnew_; clear hg_ hnew_; (first | rw [← Ny119.out] at ho20 | (simp only [Int.reduceToNat] at ho20; rw [← Ny119.out] at ho20)); have n0_ := Aside0.mk (Kd.R_lower ho20 (below_size (by repeat (first | (with_reducible first | exact HB.out | apply below_alloc | apply pw_below_drewN | apply below_drew1) | exact HB.out)))); have n1_ := Aside0.mk (below_step (by repeat (first | (with_reducible first | exact HB.out | apply below_alloc | apply pw_below_drewN | apply below_drew1) | exact HB.out)) hb); clear HB; have HO121 := n0_; have HB := n1_; clear n0_ n1_; clear hb ho20) | ((with_reducible refine gate_builtin (b := .append) (xs := #[.tmp 18, .tmp 19]) rfl ?_); at_builtin; refine Kd.R_append_rows Kd.string (w0 := w) w.heap.size rfl (.tmp 18) (.tmp 19) 22 9 (.string ⟨#[]⟩) 16 rfl Try.underlying22 info9 rfl (by decide) (by omega) v120 y119 l0 _ _ _ (fun _ => True) (fun _ => False) rfl rfl ?aO ?aR (fun _ _ h => h) (fun _ h => h.elim) ?aF ?aB ?aS ?aL ?_; (case aR => repeat (first | exact (Kd.C_below HR0.out HB.out) | (with_reducible refine Kd.C_alloc ?_ _) | (with_reducible refine Kd.C_drewN ?_ _) | (with_reducible refine Kd.C_drew ?_))); (case aB => exact (by repeat (first | (with_reducible first | exact HB.out | apply below_alloc | apply pw_below_drewN | apply below_drew1) | exact HB.out))); (case aF => exact (fun _ _ => trivial)); (case aO => exact (by (with_reducible repeat (first | apply Kd.R_alloc | apply Kd.R_drewN | apply Kd.R_drew)); exact HO121.out)); (case aS => exact (below_size (by repeat (first | (with_reducible first | exact HB.out | apply below_alloc | apply pw_below_drewN | apply below_drew1) | exact HB.out)))); (case aL => have := LMc6.out; omega); intro v123 w21 ho hb hg hat; rw [← Ny122.out] at ho; have n0_ := Aside0.mk (hb); have n1_ := Aside0.mk (ho); clear HB; clear HO121; have HB := n0_; have HO124 := n1_; clear n0_ n1_; clear ho hb hg hat) | ((with_reducible refine gate_dst (N := 21) rfl ?_); refine Kd.R_lit Kd.string _ 9 ?hg (N := 21) ?hd (xs := ([] : List ByteArray)) (inner := []) (ok := fun _ => True) (okp := fun _ => True) ?hr ?hp (fun _ hk => hk) trivial (Below.refl _ _) (Nat.le_refl _) (by simp) ?_; (case hd => rfl); (case hg => rfl); (case hr => first | (go_simp; done) | (go_simp; rfl)); (case hp => exact (Reps.none _ _)); intro v126 w22 ho23 hb hg_ hnew_; clear hg_ hnew_; (first | rw [← Ny125.out] at ho23 | (simp only [Int.reduceToNat] at ho23; rw [← Ny125.out] at ho23)); have n0_ := Aside0.mk (Kd.R_elder' (by (with_reducible repeat (first | apply Kd.R_alloc | apply Kd.R_drewN | apply Kd.R_drew)); exact HO124.out) (Kd.R_base ho23) hb); have n1_ := Aside0.mk (Kd.R_lower (Kd.R_new' ho23 (Kd.R_lt (by (with_reducible repeat (first | apply Kd.R_alloc | apply Kd.R_drewN | apply Kd.R_drew)); exact HO124.out))) (below_size (by repeat (first | (with_reducible first | exact HB.out | apply below_alloc | apply pw_below_drewN | apply below_drew1) | exact HB.out)))); have n2_ := Aside0.mk (below_step (by repeat (first | (with_reducible first | exact HB.out | apply below_alloc | apply pw_below_drewN | apply below_drew1) | exact HB.out)) hb); clear HO124; clear HB; have HO124 := n0_; have HO127 := n1_; have HB := n2_; clear n0_ n1_ n2_; clear hb ho23) | ((with_reducible refine gate_builtin (b := .append) (xs := #[.tmp 21, .tmp 22]) rfl ?_); at_builtin; refine Kd.R_append_rows Kd.string (w0 := w) w.heap.size rfl (.tmp 21) (.tmp 22) 22 9 (.string ⟨#[]⟩) 16 rfl Try.underlying22 info9 rfl (by decide) (by omega) v126 y125 l1 _ _ _ (fun k_ => some k_ ≠ (v123 : Value).ownBlock) (fun _ => False) rfl rfl ?aO ?aR (fun _ _ h => h) (fun _ h => h.elim) ?aF ?aB ?aS ?aL ?_; (case aR => repeat (first | exact (Kd.C_below HR1.out HB.out) | (with_reducible refine Kd.C_alloc ?_ _) | (with_reducible refine Kd.C_drewN ?_ _) | (with_reducible refine Kd.C_drew ?_))); (case aB => exact (by repeat (first | (with_reducible first | exact HB.out | apply below_alloc | apply pw_below_drewN | apply below_drew1) | exact HB.out))); (case aF => exact (fun k_ hk => Kd.fresh' (Kd.R_lt (by (with_reducible repeat (first | apply Kd.R_alloc | apply Kd.R_drewN | apply Kd.R_drew)); exact HO124.out)) k_ hk)); (case aO => exact (by (with_reducible repeat (first | apply Kd.R_alloc | apply Kd.R_drewN | apply Kd.R_drew)); exact Kd.R_mono HO127.out (fun _ hk => hk.2))); (case aS => exact (below_size (by repeat (first | (with_reducible first | exact HB.out | apply below_alloc | apply pw_below_drewN | apply below_drew1) | exact HB.out)))); (case aL => have := LMc7.out; omega); intro v129 w24 ho hb hg hat; rw [← Ny128.out] at ho; have n0_ := Aside0.mk (Kd.R_after (ok := (fun _ => True)) (by (with_reducible repeat (first | apply Kd.R_alloc | apply Kd.R_drewN | apply Kd.R_drew)); exact HO124.out) hg hat); have n1_ := Aside0.mk (hb); have n2_ := Aside0.mk (ho); clear HO124; clear HB; clear HO127; have HO124 := n0_; have HB := n1_; have HO130 := n2_; clear n0_ n1_ n2_; clear ho hb hg hat) | ((with_reducible refine gate_dst (N := 24) rfl ?_); refine Kd.R_lit Kd.string _ 9 ?hg (N := 24) ?hd (xs := ([] : List ByteArray)) (inner := []) (ok := fun _ => True) (okp := fun _ => True) ?hr ?hp (fun _ hk => hk) trivial (Below.refl _ _) (Nat.le_refl _) (by simp) ?_; (case hd => rfl); (case hg => rfl); (case hr => first | (go_simp; done) | (go_simp; rfl)); (case hp => exact (Reps.none _ _)); intro v132 w25 ho26 hb hg_ hnew_; clear hg_ hnew_; (first | rw [← Ny131.out] at ho26 | (simp only [Int.reduceToNat] at ho26; rw [← Ny131.out] at ho26)); have n0_ := Aside0.mk (Kd.R_elder' (by (with_reducible repeat (first | apply Kd.R_alloc | apply Kd.R_drewN | apply Kd.R_drew)); exact HO124.out) (Kd.R_base ho26) hb); have n1_ := Aside0.mk (Kd.R_elder' (by (with_reducible repeat (first | apply Kd.R_alloc | apply Kd.R_drewN | apply Kd.R_drew)); exact HO130.out) (Kd.R_base ho26) hb); have n2_ := Aside0.mk (Kd.R_lower (Kd.R_new' (Kd.R_new' ho26 (Kd.R_lt (by (with_reducible repeat (first | apply Kd.R_alloc | apply Kd.R_drewN | apply Kd.R_drew)); exact HO124.out))) (Kd.R_lt (by (with_reducible repeat (first | apply Kd.R_alloc | apply Kd.R_drewN | apply Kd.R_drew)); exact HO130.out))) (below_size (by repeat (first | (with_reducible first | exact HB.out | apply below_alloc | apply pw_below_drewN | apply below_drew1) | exact HB.out)))); have n3_ := Aside0.mk (below_step (by repeat (first | (with_reducible first | exact HB.out | apply below_alloc | apply pw_below_drewN | apply below_drew1) | exact HB.out)) hb); clear HO124; clear HO130; clear HB; have HO124 := n0_; have HO130 := n1_; have HO133 := n2_; have HB := n3_; clear n0_ n1_ n2_ n3_; clear hb ho26) | ((with_reducible refine gate_builtin (b := .append) (xs := #[.tmp 24, .tmp 25]) rfl ?_); at_builtin; refine Kd.R_append_rows Kd.string (w0 := w) w.heap.size rfl (.tmp 24) (.tmp 25) 22 9 (.string ⟨#[]⟩) 16 rfl Try.underlying22 info9 rfl (by decide) (by omega) v132 y131 l2 _ _ _ (fun k_ => some k_ ≠ (v123 : Value).ownBlock ∧ some k_ ≠ (v129 : Value).ownBlock) (fun _ => False) rfl rfl ?aO ?aR (fun _ _ h => h) (fun _ h => h.elim) ?aF ?aB ?aS ?aL ?_; (case aR => repeat (first | exact (Kd.C_below HR2.out HB.out) | (with_reducible refine Kd.C_alloc ?_ _) | (with_reducible refine Kd.C_drewN ?_ _) | (with_reducible refine Kd.C_drew ?_))); (case aB => exact (by repeat (first | (with_reducible first | exact HB.out | apply below_alloc | apply pw_below_drewN | apply below_drew1) | exact HB.out))); (case aF => exact (fun k_ hk => ⟨Kd.fresh' (Kd.R_lt (by (with_reducible repeat (first | apply Kd.R_alloc | apply Kd.R_drewN | apply Kd.R_drew)); exact HO124.out)) k_ hk, Kd.fresh' (Kd.R_lt (by (with_reducible repeat (first | apply Kd.R_alloc | apply Kd.R_drewN | apply Kd.R_drew)); exact HO130.out)) k_ hk⟩)); (case aO => exact (by (with_reducible repeat (first | apply Kd.R_alloc | apply Kd.R_drewN | apply Kd.R_drew)); exact Kd.R_mono HO133.out (fun _ hk => ⟨hk.1.2, hk.2⟩))); (case aS => exact (below_size (by repeat (first | (with_reducible first | exact HB.out | apply below_alloc | apply pw_below_drewN | apply below_drew1) | exact HB.out)))); (case aL => have := LMc8.out; omega); intro v135 w27 ho hb hg hat; rw [← Ny134.out] at ho; have n0_ := Aside0.mk (Kd.R_after (ok := (fun k_ => some k_ ≠ (v129 : Value).ownBlock)) (by (with_reducible repeat (first | apply Kd.R_alloc | apply Kd.R_drewN | apply Kd.R_drew)); exact Kd.R_mono HO124.out (fun _ hk => ⟨hk.1.2, hk.2⟩)) hg hat); have n1_ := Aside0.mk (Kd.R_after (ok := (fun k_ => some k_ ≠ (v123 : Value).ownBlock)) (by (with_reducible repeat (first | apply Kd.R_alloc | apply Kd.R_drewN | apply Kd.R_drew)); exact HO130.out) hg hat); have n2_ := Aside0.mk (hb); have n3_ := Aside0.mk (ho); clear HO124; clear HO130; clear HB; clear HO133; have HO124 := n0_; have HO130 := n1_; have HB := n2_; have HO136 := n3_; clear n0_ n1_ n2_ n3_; clear ho hb hg hat; obtain ⟨Ao28, co28, eo28⟩ := Kd.R_slice HO124.out; subst eo28; obtain ⟨Ao29, co29, eo29⟩ := Kd.R_slice HO130.out; subst eo29; obtain ⟨Ao30, co30, eo30⟩ := Kd.R_slice HO136.out; subst eo30) | ((with_reducible refine gate_callee (f := 9) rfl ?_); refine goesL_ (some 31) rfl rfl Try.func9 (by kernel_rfl) rfl #[.slice Ao28 y122.length co28, .slice Ao29 y128.length co29, .slice Ao30 y134.length co30] rfl (by (try simp only [List.map_toArray, List.map_cons, List.map_nil]); first | done | rfl | (simp only [List.length_drop, List.length_take]; rfl)) ?_; (with_reducible refine (merge_Merge.calls k _ _ y122 _ _ y128 _ _ y134 t137 t138 _ ?side1 ?side2 ?side3 ?side4 ?side5 ?side6 A9.out).mono ?_); (case side1 => repeat (first | exact (Kd.R_reads' HO124.out).2.2 | (with_reducible refine Kd.C_alloc ?_ _) | (with_reducible refine Kd.C_drewN ?_ _) | (with_reducible refine Kd.C_drew ?_))); (case side2 => exact (Kd.R_reads' HO124.out).2.1); (case side3 => repeat (first | exact (Kd.R_reads' HO130.out).2.2 | (with_reducible refine Kd.C_alloc ?_ _) | (with_reducible refine Kd.C_drewN ?_ _) | (with_reducible refine Kd.C_drew ?_))); (case side4 => exact (Kd.R_reads' HO130.out).2.1); (case side5 => repeat (first | exact (Kd.R_reads' HO136.out).2.2 | (with_reducible refine Kd.C_alloc ?_ _) | (with_reducible refine Kd.C_drewN ?_ _) | (with_reducible refine Kd.C_drew ?_))); (case side6 => exact (Kd.R_reads' HO136.out).2.1); rintro e w31 ⟨v139, rfl, ho0, hb⟩; refine ⟨_, rfl, ?_⟩; have n0_ := Aside0.mk (Kd.R_below (by (with_reducible repeat (first | apply Kd.R_alloc | apply Kd.R_drewN | apply Kd.R_drew)); exact HO124.out) hb); have n1_ := Aside0.mk (Kd.R_below (by (with_reducible repeat (first | apply Kd.R_alloc | apply Kd.R_drewN | apply Kd.R_drew)); exact HO130.out) hb); have n2_ := Aside0.mk (Kd.R_below (by (with_reducible repeat (first | apply Kd.R_alloc | apply Kd.R_drewN | apply Kd.R_drew)); exact HO136.out) hb); have n3_ := Aside0.mk (Kd.S_lower (Kd.S_new' (Kd.S_new' (Kd.S_new' ho0 (Kd.R_lt (by (with_reducible repeat (first | apply Kd.R_alloc | apply Kd.R_drewN | apply Kd.R_drew)); exact HO124.out))) (Kd.R_lt (by (with_reducible repeat (first | apply Kd.R_alloc | apply Kd.R_drewN | apply Kd.R_drew)); exact HO130.out))) (Kd.R_lt (by (with_reducible repeat (first | apply Kd.R_alloc | apply Kd.R_drewN | apply Kd.R_drew)); exact HO136.out))) (below_size (by repeat (first | (with_reducible first | exact HB.out | apply below_alloc | apply pw_below_drewN | apply below_drew1) | exact HB.out)))); have n4_ := Aside0.mk (below_step (by repeat (first | (with_reducible first | exact HB.out | apply below_alloc | apply pw_below_drewN | apply below_drew1) | exact HB.out)) hb); clear HO124; clear HO130; clear HO136; clear HB; have HO124 := n0_; have HO130 := n1_; have HO136 := n2_; have HO140 := n3_; have HB := n4_; clear n0_ n1_ n2_ n3_ n4_; (try clear hb); (try clear hb2); (try clear hk); (try clear hi); (try clear ho0)) | ((with_reducible refine gate_callee (f := 10) rfl ?_); refine goesL_ (some 38) rfl rfl Try.func10 (by kernel_rfl) rfl #[.slice A0 l0.length c0, .slice A1 l1.length c1, .slice A2 l2.length c2] rfl (by (try simp only [List.map_toArray, List.map_cons, List.map_nil]); first | done | rfl | (simp only [List.length_drop, List.length_take]; rfl)) ?_; (with_reducible refine (ref18_Merge.calls k _ _ l0 _ _ l1 _ _ l2 t141 t142 _ ?side1 ?side2 ?side3 ?side4 ?side5 ?side6 A10.out).mono ?_); (case side1 => repeat (first | exact (Kd.C_below HR0.out HB.out) | (with_reducible refine Kd.C_alloc ?_ _) | (with_reducible refine Kd.C_drewN ?_ _) | (with_reducible refine Kd.C_drew ?_))); (case side2 => exact HC0.out); (case side3 => repeat (first | exact (Kd.C_below HR1.out HB.out) | (with_reducible refine Kd.C_alloc ?_ _) | (with_reducible refine Kd.C_drewN ?_ _) | (with_reducible refine Kd.C_drew ?_))); (case side4 => exact HC1.out); (case side5 => repeat (first | exact (Kd.C_below HR2.out HB.out) | (with_reducible refine Kd.C_alloc ?_ _) | (with_reducible refine Kd.C_drewN ?_ _) | (with_reducible refine Kd.C_drew ?_))); (case side6 => exact HC2.out); rintro e w32 ⟨v143, rfl, ho0, hb⟩; refine ⟨_, rfl, ?_⟩; have n0_ := Aside0.mk (Kd.R_below (by (with_reducible repeat (first | apply Kd.R_alloc | apply Kd.R_drewN | apply Kd.R_drew)); exact HO124.out) hb); have n1_ := Aside0.mk (Kd.R_below (by (with_reducible repeat (first | apply Kd.R_alloc | apply Kd.R_drewN | apply Kd.R_drew)); exact HO130.out) hb); have n2_ := Aside0.mk (Kd.R_below (by (with_reducible repeat (first | apply Kd.R_alloc | apply Kd.R_drewN | apply Kd.R_drew)); exact HO136.out) hb); have n3_ := Aside0.mk (Kd.S_elder' (by (with_reducible repeat (first | apply Kd.S_alloc | apply Kd.S_drewN | apply Kd.S_drew)); exact HO140.out) (Kd.S_base ho0) hb); have n4_ := Aside0.mk (Kd.S_lower (Kd.S_new' (Kd.S_new' (Kd.S_new' (Kd.S_new' ho0 (Kd.R_lt (by (with_reducible repeat (first | apply Kd.R_alloc | apply Kd.R_drewN | apply Kd.R_drew)); exact HO124.out))) (Kd.R_lt (by (with_reducible repeat (first | apply Kd.R_alloc | apply Kd.R_drewN | apply Kd.R_drew)); exact HO130.out))) (Kd.R_lt (by (with_reducible repeat (first | apply Kd.R_alloc | apply Kd.R_drewN | apply Kd.R_drew)); exact HO136.out))) (Kd.S_lt (by (with_reducible repeat (first | apply Kd.S_alloc | apply Kd.S_drewN | apply Kd.S_drew)); exact HO140.out))) (below_size (by repeat (first | (with_reducible first | exact HB.out | apply below_alloc | apply pw_below_drewN | apply below_drew1) | exact HB.out)))); have n5_ := Aside0.mk (below_step (by repeat (first | (with_reducible first | exact HB.out | apply below_alloc | apply pw_below_drewN | apply below_drew1) | exact HB.out)) hb); clear HO124; clear HO130; clear HO136; clear HO140; clear HB; have HO124 := n0_; have HO130 := n1_; have HO136 := n2_; have HO140 := n3_; have HO144 := n4_; have HB := n5_; clear n0_ n1_ n2_ n3_ n4_ n5_; (try clear hb); (try clear hb2); (try clear hk); (try clear hi); (try clear ho0); obtain ⟨Ao33, co33, eo33⟩ := Kd.S_slice HO140.out; subst eo33; obtain ⟨Ao34, co34, eo34⟩ := Kd.S_slice HO144.out; subst eo34) | ((with_reducible refine gate_callee (f := 11) rfl ?_); refine goesL_ (some 43) rfl rfl Try.func11 (by kernel_rfl) rfl #[.slice Ao33 t137.length co33, .slice Ao34 t141.length co34] rfl (by (try simp only [List.map_toArray, List.map_cons, List.map_nil]); first | done | rfl | (simp only [List.length_drop, List.length_take]; rfl)) ?_; (with_reducible refine (sidingref18_Same.calls k _ _ t137 _ _ t141 true _ ?side1 ?side2 ?side3 ?side4 A11.out).mono ?_); (case side1 => repeat (first | exact (Kd.S_reads' HO140.out).2.2 | (with_reducible refine Kd.C_alloc ?_ _) | (with_reducible refine Kd.C_drewN ?_ _) | (with_reducible refine Kd.C_drew ?_))); (case side2 => exact (Kd.S_reads' HO140.out).2.1); (case side3 => repeat (first | exact (Kd.S_reads' HO144.out).2.2 | (with_reducible refine Kd.C_alloc ?_ _) | (with_reducible refine Kd.C_drewN ?_ _) | (with_reducible refine Kd.C_drew ?_))); (case side4 => exact (Kd.S_reads' HO144.out).2.1); rintro e w35 ⟨rfl, hb⟩; refine ⟨_, rfl, ?_⟩; have n0_ := Aside0.mk (Kd.R_below (by (with_reducible repeat (first | apply Kd.R_alloc | apply Kd.R_drewN | apply Kd.R_drew)); exact HO124.out) hb); have n1_ := Aside0.mk (Kd.R_below (by (with_reducible repeat (first | apply Kd.R_alloc | apply Kd.R_drewN | apply Kd.R_drew)); exact HO130.out) hb); have n2_ := Aside0.mk (Kd.R_below (by (with_reducible repeat (first | apply Kd.R_alloc | apply Kd.R_drewN | apply Kd.R_drew)); exact HO136.out) hb); have n3_ := Aside0.mk (Kd.S_below (by (with_reducible repeat (first | apply Kd.S_alloc | apply Kd.S_drewN | apply Kd.S_drew)); exact HO140.out) hb); have n4_ := Aside0.mk (Kd.S_below (by (with_reducible repeat (first | apply Kd.S_alloc | apply Kd.S_drewN | apply Kd.S_drew)); exact HO144.out) hb); have n5_ := Aside0.mk (below_step (by repeat (first | (with_reducible first | exact HB.out | apply below_alloc | apply pw_below_drewN | apply below_drew1) | exact HB.out)) hb); clear HO124; clear HO130; clear HO136; clear HO140; clear HO144; clear HB; have HO124 := n0_; have HO130 := n1_; have HO136 := n2_; have HO140 := n3_; have HO144 := n4_; have HB := n5_; clear n0_ n1_ n2_ n3_ n4_ n5_; (try clear hb); (try clear hb2); (try clear hk); (try clear hi)) | (go_at_call 12; (with_reducible refine (sidingref13_Same.calls k _ _ y122 _ _ l0 true _ ?side1 ?side2 ?side3 ?side4 A14.out).mono ?_); (case side1 => repeat (first | exact (Kd.R_reads' HO124.out).2.2 | (with_reducible refine Kd.C_alloc ?_ _) | (with_reducible refine Kd.C_drewN ?_ _) | (with_reducible refine Kd.C_drew ?_))); (case side2 => exact (Kd.R_reads' HO124.out).2.1); (case side3 => repeat (first | exact (Kd.C_below HR0.out HB.out) | (with_reducible refine Kd.C_alloc ?_ _) | (with_reducible refine Kd.C_drewN ?_ _) | (with_reducible refine Kd.C_drew ?_))); (case side4 => exact HC0.out); rintro e w' ⟨rfl, ⟨nd, rfl⟩⟩) | (go_at_call 12; (with_reducible refine (sidingref13_Same.calls k _ _ y128 _ _ l1 true _ ?side1 ?side2 ?side3 ?side4 A16.out).mono ?_); (case side1 => repeat (first | exact (Kd.R_reads' HO130.out).2.2 | (with_reducible refine Kd.C_alloc ?_ _) | (with_reducible refine Kd.C_drewN ?_ _) | (with_reducible refine Kd.C_drew ?_))); (case side2 => exact (Kd.R_reads' HO130.out).2.1); (case side3 => repeat (first | exact (Kd.C_below HR1.out (by repeat (first | (with_reducible first | exact HB.out | apply below_alloc | apply pw_below_drewN | apply below_drew1) | exact HB.out))) | (with_reducible refine Kd.C_alloc ?_ _) | (with_reducible refine Kd.C_drewN ?_ _) | (with_reducible refine Kd.C_drew ?_))); (case side4 => exact HC1.out); rintro e w' ⟨rfl, ⟨nd, rfl⟩⟩) | (go_at_call 12; (with_reducible refine (sidingref13_Same.calls k _ _ y134 _ _ l2 t148 _ ?side1 ?side2 ?side3 ?side4 A18.out).mono ?_); (case side1 => repeat (first | exact (Kd.R_reads' HO136.out).2.2 | (with_reducible refine Kd.C_alloc ?_ _) | (with_reducible refine Kd.C_drewN ?_ _) | (with_reducible refine Kd.C_drew ?_))); (case side2 => exact (Kd.R_reads' HO136.out).2.1); (case side3 => repeat (first | exact (Kd.C_below HR2.out (by repeat (first | (with_reducible first | exact HB.out | apply below_alloc | apply pw_below_drewN | apply below_drew1) | exact HB.out))) | (with_reducible refine Kd.C_alloc ?_ _) | (with_reducible refine Kd.C_drewN ?_ _) | (with_reducible refine Kd.C_drew ?_))); (case side4 => exact HC2.out); rintro e w' ⟨rfl, ⟨nd, rfl⟩⟩))
         go_ret
         (try rw [sameA16])
         (try rw [sameA18])
         exact ⟨by first | rfl | (simp [errW_none, errW_some] <;> rfl) | (simp [*, errW_none, errW_some] <;> rfl), by repeat (first | (with_reducible first | exact HB.out | apply below_alloc | apply pw_below_drewN | apply below_drew1) | exact HB.out)⟩
        ·replace c17 := Bool.eq_false_iff.mpr c17
         subst c17
         have H1 : (some false) = some r := by rw [if_neg (show ¬ (false = true) by decide)] at H; exact H
         clear H
         have H := H1
         clear H1
         exact absurd ((Option.some.inj H).trans hr_.out) (by decide)
       ·replace c15 := Bool.eq_false_iff.mpr c15
        subst c15
        have H1 : (some false) = some r := by rw [if_neg (show ¬ (false = true) by decide)] at H; exact H
        clear H
        have H := H1
        clear H1
        exact absurd ((Option.some.inj H).trans hr_.out) (by decide)
      ·rw [if_neg c13] at H
       have c13b0 : (t138 == t142) = false := beq_eq_false_iff_ne.mpr c13
       have c13b1 : (t138 != t142) = true := bne_iff_ne.mpr c13
       exact absurd ((Option.some.inj H).trans hr_.out) (by decide)
     ·replace c12 := Bool.eq_false_iff.mpr c12
      subst c12
      have H1 : (some false) = some r := by rw [if_neg (show ¬ (false = true) by decide)] at H; exact H
      clear H
      have H := H1
      clear H1
      exact absurd ((Option.some.inj H).trans hr_.out) (by decide)
    ·rw [if_neg c8] at H
     exact absurd H (by simp)
   ·rw [if_neg c7] at H
    exact absurd H (by simp)
  ·rw [if_neg c6] at H
   exact absurd H (by simp)
def sidinglaw18_MergeDoes.Pure : Prop := ∀ (l0 : List ByteArray) (l1 : List ByteArray) (l2 : List ByteArray), (l0.length * 16 ≤ 140737488351232 ∧ ∀ x0_ ∈ l0, x0_.size ≤ 140737488351232) → (l1.length * 16 ≤ 140737488351232 ∧ ∀ x0_ ∈ l1, x0_.size ≤ 140737488351232) → (l2.length * 16 ≤ 140737488351232 ∧ ∀ x0_ ∈ l2, x0_.size ≤ 140737488351232) → ∃ k, sidinglaw18_MergeDoes.f k l0 l1 l2 = some true
theorem sidinglaw18_MergeDoes.walk (P : sidinglaw18_MergeDoes.Pure) (A0 : Option Addr) (c0 : Nat) (l0 : List ByteArray) (A1 : Option Addr) (c1 : Nat) (l1 : List ByteArray) (A2 : Option Addr) (c2 : Nat) (l2 : List ByteArray) (w : World) (hr0 : Kd.C Kd.string w A0 l0.length l0) (hc0 : l0.length ≤ c0) (hr1 : Kd.C Kd.string w A1 l1.length l1) (hc1 : l1.length ≤ c1) (hr2 : Kd.C Kd.string w A2 l2.length l2) (hc2 : l2.length ≤ c2) (hw0 : l0.length * 16 ≤ 140737488351232 ∧ ∀ x0_ ∈ l0, x0_.size ≤ 140737488351232) (hw1 : l1.length * 16 ≤ 140737488351232 ∧ ∀ x0_ ∈ l1, x0_.size ≤ 140737488351232) (hw2 : l2.length * 16 ≤ 140737488351232 ∧ ∀ x0_ ∈ l2, x0_.size ≤ 140737488351232) :
  Calls Try.prog 3 #[.slice A0 l0.length c0, .slice A1 l1.length c1, .slice A2 l2.length c2] w fun e w' => e = .returned (.bool true) ∧ Below w.heap.size w w' := by
 obtain ⟨k, h⟩ := P l0 l1 l2 hw0 hw1 hw2
 refine (sidinglaw18_MergeDoes.calls k A0 c0 l0 A1 c1 l1 A2 c2 l2 true w hr0 hc0 hr1 hc1 hr2 hc2 h ⟨rfl⟩).mono ?_
 rintro e w' ⟨rfl, hd⟩
 exact ⟨rfl, hd⟩
end Go.Proofs.Ytahpbpacjciddaa.Pr
end
section
namespace Go.Proofs.Ytahpbpacjciddaa.Pr
open Go.RowKit Go.Proofs.YtahpbpacjciddaaW.PrintWords Go.Proofs.YtahpbpacjciddaaW.PrintLast Go.Proofs.YtahpbpacjciddaaW.PrintMore
set_option linter.unusedVariables false
set_option linter.unusedSimpArgs false
def pieceL (a b : List ByteArray) (i k p q : Nat) : List S82 := if i < p ∨ k < q then [⟨(i : Int), (a.take p).drop i, (b.take q).drop k⟩] else []
def diffL (a b : List ByteArray) : Nat → Nat → List (Nat × Nat) → List S82
 | i, k, [] => pieceL a b i k a.length b.length
 | i, k, p :: m => pieceL a b i k p.1 p.2 ++ diffL a b (p.1 + 1) (p.2 + 1) m
theorem diffL_nil (a b : List ByteArray) (i k : Nat) : diffL a b i k [] = pieceL a b i k a.length b.length := rfl
theorem diffL_cons (a b : List ByteArray) (i k : Nat) (p : Nat × Nat) (m : List (Nat × Nat)) : diffL a b i k (p :: m) = pieceL a b i k p.1 p.2 ++ diffL a b (p.1 + 1) (p.2 + 1) m := rfl
theorem pieceL_pos {a b : List ByteArray} {i k p q : Nat} (h : i < p ∨ k < q) : pieceL a b i k p q = [⟨(i : Int), (a.take p).drop i, (b.take q).drop k⟩] := if_pos h
theorem pieceL_neg {a b : List ByteArray} {i k p q : Nat} (h : ¬ (i < p ∨ k < q)) : pieceL a b i k p q = [] := if_neg h
theorem seg_join (a : List ByteArray) {x y z : Nat} (hxy : x ≤ y) (hyz : y ≤ z) : (a.take y).drop x ++ (a.take z).drop y = (a.take z).drop x := by
 rw [List.drop_take, List.drop_take, List.drop_take]
 rw [show z - x = (y - x) + (z - y) by omega, List.take_add]
 congr 1
 rw [List.drop_drop]
 congr 2
 omega
def pt : List (Nat × Nat) → Nat → Option Nat
 | [], _ => none
 | p :: m, i => if p.1 = i then some p.2 else pt m i
theorem pt_lt {a b : List ByteArray} {i k : Nat} {m : List (Nat × Nat)} (h : Match a b i k m) : ∀ j, j < i → pt m j = none := by
 induction h with
 | nil => exact fun _ _ => rfl
 | cons i k p m h1 h2 h3 h4 he hm ih =>
  intro j hj
  unfold pt
  rw [if_neg (by omega)]
  exact ih j (by omega)
theorem pt_some {a b : List ByteArray} {i k : Nat} {m : List (Nat × Nat)} (h : Match a b i k m) : ∀ {j u}, pt m j = some u → i ≤ j ∧ k ≤ u ∧ ∃ (h1 : j < a.length) (h2 : u < b.length), a[j] = b[u] := by
 induction h with
 | nil => intro j u h; cases h
 | cons i k p m h1 h2 h3 h4 he hm ih =>
  intro j u h
  unfold pt at h
  by_cases e : p.1 = j
  ·rw [if_pos e] at h
   obtain rfl := Option.some.inj h
   subst e
   exact ⟨h1, h2, h3, h4, he⟩
  ·rw [if_neg e] at h
   have := ih h
   exact ⟨by omega, by omega, this.2.2⟩
theorem pt_mono {a b : List ByteArray} {i k : Nat} {m : List (Nat × Nat)} (h : Match a b i k m) : ∀ {j l u v}, pt m j = some u → pt m l = some v → j < l → u < v := by
 induction h with
 | nil => intro j l u v h; cases h
 | cons i k p m h1 h2 h3 h4 he hm ih =>
  intro j l u v hj hl hjl
  unfold pt at hj hl
  by_cases e : p.1 = j
  ·rw [if_pos e] at hj
   obtain rfl := Option.some.inj hj
   rw [if_neg (by omega)] at hl
   have := pt_some hm hl
   omega
  ·rw [if_neg e] at hj
   by_cases e2 : p.1 = l
   ·have := pt_some hm hj
    omega
   ·rw [if_neg e2] at hl
    exact ih hj hl hjl
def befAt (n nb : Nat) : Nat → Nat → List (Nat × Nat) → Nat → Bool
 | i, k, [], j => decide (j = i ∧ i = n ∧ k < nb)
 | i, k, p :: m, j => decide (j = i ∧ i = p.1 ∧ k < p.2) || befAt n nb (p.1 + 1) (p.2 + 1) m j
theorem befAt_lt {a b : List ByteArray} {i k : Nat} {m : List (Nat × Nat)} (n nb : Nat) (h : Match a b i k m) : ∀ j, j < i → befAt n nb i k m j = false := by
 induction h with
 | nil i k => exact fun j hj => decide_eq_false (by omega)
 | cons i k p m h1 h2 h3 h4 he hm ih =>
  intro j hj
  unfold befAt
  rw [decide_eq_false (by omega), ih j (by omega)]
  rfl
theorem befAt_next {a b : List ByteArray} {i k : Nat} {m : List (Nat × Nat)} (h : Match a b i k m) : ∀ {j u}, pt m j = some u → befAt a.length b.length i k m (j + 1) = match pt m (j + 1) with
  | some v => decide (u + 1 < v)
  | none => decide (j + 1 = a.length ∧ u + 1 < b.length) := by
 induction h with
 | nil i k => intro j u h; cases h
 | cons i k p m h1 h2 h3 h4 he hm ih =>
  intro j u hj
  unfold pt at hj
  by_cases e : p.1 = j
  ·rw [if_pos e] at hj
   obtain rfl := Option.some.inj hj
   subst e
   unfold befAt
   rw [decide_eq_false (by omega), Bool.false_or]
   have e2 : pt (p :: m) (p.1 + 1) = pt m (p.1 + 1) := by
    rw [pt, if_neg (by omega)]
   rw [e2]
   cases hm with
   | nil => simp [befAt, pt]
   | cons _ _ q m' g1 g2 g3 g4 ge gm =>
    unfold befAt pt
    rw [befAt_lt _ _ gm _ (by omega), Bool.or_false]
    by_cases e3 : q.1 = p.1 + 1
    ·rw [if_pos e3]
     simp only [Bool.decide_and, e3, decide_true, Bool.true_and]
    ·rw [if_neg e3, pt_lt gm _ (by omega)]
     simp only
     rw [decide_eq_false (by omega), decide_eq_false (by omega)]
  ·rw [if_neg e] at hj
   have hq := pt_some hm hj
   unfold befAt
   rw [decide_eq_false (by omega), Bool.false_or, ih hj]
   have e2 : pt (p :: m) (j + 1) = pt m (j + 1) := by
    rw [pt, if_neg (by omega)]
   rw [e2]
def partL (base : List ByteArray) (fr tt : Nat) : List S82 → List ByteArray → Nat → List ByteArray
 | [], out, at_ => out ++ (base.take tt).drop at_
 | h :: l, out, at_ => if h.f0 < (fr : Int) ∨ (tt : Int) < h.f0 + (h.f1.length : Int) then partL base fr tt l out at_
  else partL base fr tt l (out ++ (base.take h.f0.toNat).drop at_ ++ h.f2) (h.f0.toNat + h.f1.length)
theorem partL_skip (base : List ByteArray) (fr tt : Nat) (l : List S82) : ∀ (s : List S82) (out : List ByteArray) (at_ : Nat), (∀ h ∈ s, h.f0 < (fr : Int) ∨ (tt : Int) < h.f0 + (h.f1.length : Int)) → partL base fr tt (s ++ l) out at_ = partL base fr tt l out at_
 | [], _, _, _ => rfl
 | h :: s, out, at_, hs => by
  rw [List.cons_append, partL, if_pos (hs h List.mem_cons_self)]
  exact partL_skip base fr tt l s out at_ (fun x hx => hs x (List.mem_cons_of_mem _ hx))
theorem pieceL_mem {a b : List ByteArray} {i k p q : Nat} {h : S82} (hh : h ∈ pieceL a b i k p q) (hp : p ≤ a.length) (hip : i ≤ p) : h.f0 = (i : Int) ∧ (h.f1.length : Int) = (p : Int) - (i : Int) := by
 unfold pieceL at hh
 split at hh
 ·obtain rfl := List.mem_singleton.1 hh
  refine ⟨rfl, ?_⟩
  show (((a.take p).drop i).length : Int) = _
  rw [List.length_drop, List.length_take]
  omega
 ·cases hh
theorem diffL_far {a b : List ByteArray} {i k : Nat} {m : List (Nat × Nat)} (h : Match a b i k m) : i ≤ a.length → ∀ x ∈ diffL a b i k m, (i : Int) ≤ x.f0 := by
 induction h with
 | nil i k =>
  intro hi x hx
  have := pieceL_mem hx (Nat.le_refl _) hi
  omega
 | cons i k p m h1 h2 h3 h4 he hm ih =>
  intro hi x hx
  rw [diffL_cons] at hx
  rcases List.mem_append.1 hx with hx | hx
  ·have := pieceL_mem hx (by omega) h1
   omega
  ·have := ih (by omega) x hx
   omega
theorem partL_behind {a b : List ByteArray} {i k : Nat} {m : List (Nat × Nat)} (h : Match a b i k m) (hi : i ≤ a.length) (fr tt : Nat) (ht : tt < i) (out : List ByteArray) (at_ : Nat) : partL a fr tt (diffL a b i k m) out at_ = out ++ (a.take tt).drop at_ := by
 have := partL_skip a fr tt [] (diffL a b i k m) out at_ (fun x hx => by
  have := diffL_far h hi x hx
  omega)
 rwa [List.append_nil] at this
theorem piece_in (a b : List ByteArray) {fr tt i k p q : Nat} (hf : fr ≤ i) (hip : i ≤ p) (hkq : k ≤ q) (hpt : p ≤ tt) (hp : p ≤ a.length) (l : List S82) (out : List ByteArray) (at_ : Nat) (hat : at_ ≤ i) :
  ∃ out' at', partL a fr tt (pieceL a b i k p q ++ l) out at_ = partL a fr tt l out' at' ∧ at' ≤ p ∧ out' ++ (a.take p).drop at' = out ++ (a.take i).drop at_ ++ (b.take q).drop k := by
 by_cases h : i < p ∨ k < q
 ·rw [pieceL_pos h, List.singleton_append, partL]
  have hl : ((a.take p).drop i).length = p - i := by rw [List.length_drop, List.length_take]; omega
  refine ⟨out ++ (a.take i).drop at_ ++ (b.take q).drop k, p, ?_, Nat.le_refl _, ?_⟩
  ·rw [if_neg (by simp only [hl]; omega)]
   simp only [hl, Int.toNat_natCast]
   rw [show i + (p - i) = p by omega]
  ·rw [show (a.take p).drop p = [] from List.drop_eq_nil_of_le (by rw [List.length_take]; omega), List.append_nil]
 ·rw [pieceL_neg h, List.nil_append]
  obtain rfl : i = p := by omega
  obtain rfl : k = q := by omega
  refine ⟨out, at_, rfl, hat, ?_⟩
  rw [show (b.take k).drop k = [] from List.drop_eq_nil_of_le (by rw [List.length_take]; omega), List.append_nil]
theorem take_one_drop (a : List ByteArray) (p : Nat) (h : p < a.length) : (a.take (p + 1)).drop p = [a[p]] := by
 rw [List.drop_take, show p + 1 - p = 1 by omega, List.drop_eq_getElem_cons h]
 rfl
theorem partL_within {a b : List ByteArray} (fr tt q p0 : Nat) {i k : Nat} {m : List (Nat × Nat)} (h : Match a b i k m) : fr ≤ i → i ≤ tt → tt ≤ a.length → k ≤ b.length → (pt m tt = some q ∨ tt = a.length ∧ q = b.length) → p0 ≤ k →
  ∀ (out : List ByteArray) (at_ : Nat), at_ ≤ i → out ++ (a.take i).drop at_ = (b.take k).drop p0 → partL a fr tt (diffL a b i k m) out at_ = (b.take q).drop p0 := by
 induction h with
 | nil i k =>
  intro hf hit hta hkb hq hp0 out at_ hat hinv
  rcases hq with hq | ⟨rfl, rfl⟩
  ·cases hq
  ·obtain ⟨out', at', h1, h2, h3⟩ := piece_in a b (tt := a.length) hf hit hkb (Nat.le_refl _) (Nat.le_refl _) [] out at_ hat
   rw [List.append_nil] at h1
   rw [diffL_nil, h1, partL, h3, hinv]
   exact seg_join b hp0 hkb
 | cons i k p m g1 g2 g3 g4 ge hm ih =>
  intro hf hit hta hkb hq hp0 out at_ hat hinv
  rw [diffL_cons]
  by_cases hpt : p.1 < tt
  ·obtain ⟨out', at', h1, h2, h3⟩ := piece_in a b (tt := tt) hf g1 g2 (by omega) (by omega) (diffL a b (p.1 + 1) (p.2 + 1) m) out at_ hat
   rw [h1]
   refine ih (by omega) (by omega) hta (by omega) ?_ (by omega) out' at' (by omega) ?_
   ·rcases hq with hq | hq
    ·rw [pt, if_neg (by omega)] at hq
     exact .inl hq
    ·exact .inr hq
   ·rw [← seg_join a h2 (Nat.le_succ p.1), ← List.append_assoc, h3, hinv, seg_join b hp0 g2, take_one_drop a p.1 g3, ge, ← take_one_drop b p.2 g4, seg_join b (by omega) (Nat.le_succ p.2)]
  ·have hpe : p.1 = tt := by
    rcases hq with hq | ⟨hq, _⟩
    ·by_cases e : p.1 = tt
     ·exact e
     ·rw [pt, if_neg e] at hq
      have := pt_some hm hq
      omega
    ·omega
   have hqe : q = p.2 := by
    rcases hq with hq | ⟨hq, _⟩
    ·rw [pt, if_pos hpe] at hq
     exact (Option.some.inj hq).symm
    ·omega
   obtain ⟨out', at', h1, h2, h3⟩ := piece_in a b (tt := tt) hf g1 g2 (by omega) (by omega) (diffL a b (p.1 + 1) (p.2 + 1) m) out at_ hat
   rw [h1, partL_behind hm (by omega) _ _ (by omega), ← hpe, h3, hinv, hqe]
   exact seg_join b hp0 g2
theorem partL_part {a b : List ByteArray} (fr tt p0 q : Nat) {i k : Nat} {m : List (Nat × Nat)} (h : Match a b i k m) : i ≤ fr → fr ≤ tt → tt ≤ a.length → k ≤ b.length → (pt m tt = some q ∨ tt = a.length ∧ q = b.length) → (i = fr ∧ k = p0 ∨ ∃ f u, fr = f + 1 ∧ p0 = u + 1 ∧ pt m f = some u) →
  partL a fr tt (diffL a b i k m) [] fr = (b.take q).drop p0 := by
 induction h with
 | nil i k =>
  intro hif hft hta hkb hq hp
  rcases hp with ⟨rfl, rfl⟩ | ⟨f, u, _, _, h⟩
  ·refine partL_within i tt q k (.nil i k) (Nat.le_refl _) hft hta hkb hq (Nat.le_refl _) [] i (Nat.le_refl _) ?_
   rw [List.nil_append, List.drop_eq_nil_of_le (by rw [List.length_take]; omega), List.drop_eq_nil_of_le (by rw [List.length_take]; omega)]
  ·cases h
 | cons i k p m g1 g2 g3 g4 ge hm ih =>
  intro hif hft hta hkb hq hp
  rcases hp with ⟨rfl, rfl⟩ | ⟨f, u, rfl, rfl, hf⟩
  ·refine partL_within i tt q k (.cons i k p m g1 g2 g3 g4 ge hm) (Nat.le_refl _) hft hta hkb hq (Nat.le_refl _) [] i (Nat.le_refl _) ?_
   rw [List.nil_append, List.drop_eq_nil_of_le (by rw [List.length_take]; omega), List.drop_eq_nil_of_le (by rw [List.length_take]; omega)]
  ·rw [diffL_cons, partL_skip _ _ _ _ _ _ _ (fun x hx => by
    have := pieceL_mem hx (by omega) g1
    have h2 : p.1 ≤ f := by
     rw [pt] at hf
     split at hf
     ·omega
     ·have := pt_some hm hf
      omega
    omega)]
   have hq2 : pt m tt = some q ∨ tt = a.length ∧ q = b.length := by
    rcases hq with hq | hq
    ·have h2 : p.1 ≤ f := by
      rw [pt] at hf
      split at hf
      ·omega
      ·have := pt_some hm hf
       omega
     rw [pt, if_neg (by omega)] at hq
     exact .inl hq
    ·exact .inr hq
   rw [pt] at hf
   split at hf
   ·rename_i e
    obtain rfl := Option.some.inj hf
    exact ih (by omega) hft hta (by omega) hq2 (.inl ⟨by omega, rfl⟩)
   ·have := pt_some hm hf
    exact ih (by omega) hft hta (by omega) hq2 (.inr ⟨f, u, rfl, rfl, hf⟩)
end Go.Proofs.Ytahpbpacjciddaa.Pr
end
section
namespace Go.Proofs.Ytahpbpacjciddaa.Pr
open Go.RowKit Go.Proofs.YtahpbpacjciddaaW.PrintWords Go.Proofs.YtahpbpacjciddaaW.PrintLast Go.Proofs.YtahpbpacjciddaaW.PrintMore
set_option linter.unusedVariables false
set_option linter.unusedSimpArgs false
def pn : Option Nat → Int
 | some u => (u : Int)
 | none => -1
theorem pairsGo_at {a b : List ByteArray} {i k : Nat} {m : List (Nat × Nat)} (h : Match a b i k m) : ∀ (out : List Int) (j : Nat), j < out.length → (pairsGo (m.map prOf) out).getD j 0 = match pt m j with
  | some u => (u : Int)
  | none => out.getD j 0 := by
 induction h with
 | nil => intro out j _; rfl
 | cons i k p m h1 h2 h3 h4 he hm ih =>
  intro out j hj
  rw [List.map_cons, pairsGo, ih _ j (by rw [List.length_set]; exact hj)]
  have e0 : ((prOf p).f0).toNat = p.1 := by simp [prOf]
  have e1 : (prOf p).f1 = (p.2 : Int) := rfl
  rw [e0, e1, pt]
  by_cases e : p.1 = j
  ·rw [if_pos e, pt_lt hm j (by omega)]
   subst e
   simp [hj]
  ·rw [if_neg e]
   cases pt m j with
   | some u => rfl
   | none =>
    simp only
    rw [List.getD_eq_getElem?_getD, List.getElem?_set_ne e, ← List.getD_eq_getElem?_getD]
def pxs (n : Nat) (m : List (Nat × Nat)) : List Int := pairsOf n (m.map prOf)
theorem pxs_length (n : Nat) (m : List (Nat × Nat)) : (pxs n m).length = n := by
 unfold pxs pairsOf
 rw [pairsGo_length, List.length_replicate]
theorem pxs_at {a b : List ByteArray} {m : List (Nat × Nat)} (h : Match a b 0 0 m) (j : Nat) (hj : j < a.length) : (pxs a.length m).getD j 0 = pn (pt m j) := by
 unfold pxs pairsOf
 rw [pairsGo_at h _ j (by rw [List.length_replicate]; exact hj)]
 cases pt m j with
 | some u => rfl
 | none => simp [pn, List.getElem?_replicate, hj]
theorem pxs_fits {a b : List ByteArray} {m : List (Nat × Nat)} (h : Match a b 0 0 m) (hb : b.length ≤ 1000000) : mfits a.length (pxs a.length m) = true := by
 unfold mfits
 rw [Bool.and_eq_true, decide_eq_true_eq]
 refine ⟨pxs_length _ _, List.all_eq_true.2 fun v hv => ?_⟩
 obtain ⟨j, hj, rfl⟩ := List.getElem_of_mem hv
 have hj' : j < a.length := by rw [← pxs_length a.length m]; exact hj
 have h2 := pxs_at h j hj'
 rw [List.getD_eq_getElem?_getD, List.getElem?_eq_getElem hj, Option.getD_some] at h2
 rw [h2]
 cases hp : pt m j with
 | none => simp [pn]
 | some u =>
  obtain ⟨_, _, _, hu, _⟩ := pt_some h hp
  show (decide (-1 ≤ (u : Int)) && decide ((u : Int) ≤ 1000000)) = true
  rw [decide_eq_true (by omega), decide_eq_true (by omega)]
  rfl
theorem pairsIn_of {a b : List ByteArray} {i k : Nat} {m : List (Nat × Nat)} (h : Match a b i k m) : pairsIn a.length (m.map prOf) = true := by
 induction h with
 | nil => rfl
 | cons i k p m h1 h2 h3 h4 he hm ih =>
  unfold pairsIn at ih ⊢
  rw [List.map_cons, List.all_cons, ih, Bool.and_true]
  show (decide (0 ≤ (p.1 : Int)) && decide ((p.1 : Int) < (a.length : Int))) = true
  rw [decide_eq_true (by omega), decide_eq_true (by omega)]
  rfl
theorem pairs_ev (a b : List ByteArray) (ha : small a) (hb : small b) : Ev (fun k => merge_pairs.f k a b) (if bothErr a b = 0 then (pxs a.length (bestOf a b), (0 : Int)) else (([] : List Int), bothErr a b)) := by
 unfold merge_pairs.f
 refine Ev.bd (best_ev a b ha hb) (Ev.ke ?_)
 unfold merge_pairs.g
 by_cases h : bothErr a b = 0
 ·rw [if_pos h, if_pos h, if_pos rfl]
  have hz := bothErr_zero.1 h
  obtain ⟨l0, _, l1, _⟩ := linesErr_zero hz.1
  have hlen : (bestOf a b).length ≤ a.length := by rw [bestOf_length]; exact lcsLen_le_left a b
  rw [if_pos]
  ·rfl
  ·rw [pairsIn_of (bestOf_greedy a b).match, List.length_map, decide_eq_true l1, decide_eq_true (show a.length ≤ 1000000 by omega), decide_eq_true (show (bestOf a b).length ≤ 1000000 by omega)]
   rfl
 ·rw [if_neg h, if_neg h, if_neg h]
def gapP (a b c : List ByteArray) (x y : Nat × Nat × Nat) : List S34 := if y = x then [] else [mkPiece (segL a x.1 y.1) (segL b x.2.1 y.2.1) (segL c x.2.2 y.2.2)]
theorem cutAt_gap (a b c : List ByteArray) (x y : Nat × Nat × Nat) (out : List S34) (h : x.1 ≤ y.1 ∧ y.1 ≤ a.length ∧ x.2.1 ≤ y.2.1 ∧ y.2.1 ≤ b.length ∧ x.2.2 ≤ y.2.2 ∧ y.2.2 ≤ c.length) : cutAt a b c x y out = some (out ++ gapP a b c x y) := by
 unfold cutAt gapP
 by_cases e : y = x
 ·rw [if_pos e, if_pos e, List.append_nil]
 ·rw [if_neg e, if_neg e, if_pos h]
theorem ex_next (P : Nat → Bool) : ∀ (d i n : Nat), i + d = n → ∃ t, i ≤ t ∧ t ≤ n ∧ (∀ j, i ≤ j → j < t → P j = false) ∧ (t = n ∨ t < n ∧ P t = true)
 | 0, i, n, h => ⟨i, Nat.le_refl _, by omega, fun j h1 h2 => by omega, .inl (by omega)⟩
 | d + 1, i, n, h => by
  cases hp : P i with
  | true => exact ⟨i, Nat.le_refl _, by omega, fun j h1 h2 => by omega, .inr ⟨by omega, hp⟩⟩
  | false =>
   obtain ⟨t, h1, h2, h3, h4⟩ := ex_next P d (i + 1) n (by omega)
   refine ⟨t, by omega, h2, fun j hj1 hj2 => ?_, h4⟩
   by_cases e : j = i
   ·rw [e]; exact hp
   ·exact h3 j (by omega) hj2
theorem mgo_skip (a b c : List ByteArray) (x y : List Int) (at_ : Nat × Nat × Nat) (out : List S34) : ∀ (d f i : Nat), i + d ≤ a.length → (∀ j, i ≤ j → j < i + d → mboth x y j = false) → mgo a b c x y (f + d) i at_ out = mgo a b c x y f (i + d) at_ out
 | 0, _, _, _, _ => rfl
 | d + 1, f, i, h, hj => by
  rw [show f + (d + 1) = (f + d) + 1 by omega, mgo, if_pos (by omega), hj i (Nat.le_refl _) (by omega), if_neg Bool.false_ne_true, mgo_skip a b c x y at_ out d f (i + 1) (by omega) (fun j h1 h2 => hj j (by omega) (by omega)), show i + 1 + d = i + (d + 1) by omega]
theorem mrun_spec (x y : List Int) (n i : Nat) : ∀ d m, 1 ≤ m → n < i + m + d → (∀ k, m ≤ k → k < mrun x y n i d m → mruns x y n i k = true) ∧ mruns x y n i (mrun x y n i d m) = false
 | 0, m, h0, h => by
  refine ⟨fun k h1 h2 => by unfold mrun at h2; omega, ?_⟩
  unfold mrun mruns
  rw [decide_eq_false (by omega), Bool.false_and]
 | d + 1, m, h0, h => by
  unfold mrun
  cases hr : mruns x y n i m with
  | true =>
   rw [if_pos rfl]
   obtain ⟨h1, h2⟩ := mrun_spec x y n i d (m + 1) (by omega) (by omega)
   refine ⟨fun k hk1 hk2 => ?_, h2⟩
   by_cases e : k = m
   ·rw [e]; exact hr
   ·exact h1 k (by omega) hk2
  | false =>
   rw [if_neg Bool.false_ne_true]
   exact ⟨fun k h1 h2 => by omega, hr⟩
theorem seg_match (a b : List ByteArray) (t q : Nat) : ∀ M, t + M ≤ a.length → q + M ≤ b.length → (∀ k (h1 : t + k < a.length) (h2 : q + k < b.length), k < M → a[t + k] = b[q + k]) → segL b q (q + M) = segL a t (t + M)
 | 0, _, _, _ => by
  unfold segL
  rw [List.drop_eq_nil_of_le (by rw [List.length_take]; omega), List.drop_eq_nil_of_le (by rw [List.length_take]; omega)]
 | M + 1, h1, h2, h => by
  have ih := seg_match a b t q M (by omega) (by omega) (fun k g1 g2 hk => h k g1 g2 (by omega))
  unfold segL at ih ⊢
  rw [← seg_join a (show t ≤ t + M by omega) (show t + M ≤ t + (M + 1) by omega), ← seg_join b (show q ≤ q + M by omega) (show q + M ≤ q + (M + 1) by omega), ih, show t + (M + 1) = t + M + 1 by omega, show q + (M + 1) = q + M + 1 by omega, take_one_drop a _ (by omega), take_one_drop b _ (by omega), h M (by omega) (by omega) (by omega)]
theorem kind_kept (l : List ByteArray) : kindB l l l = 1 := by
 unfold kindB
 rw [decide_eq_true rfl]
 rfl
def Bnd (m1 m2 : List (Nat × Nat)) (i p r : Nat) : Prop := (i = 0 ∧ p = 0 ∧ r = 0) ∨ ∃ f u v, i = f + 1 ∧ p = u + 1 ∧ r = v + 1 ∧ pt m1 f = some u ∧ pt m2 f = some v
def mres (a b c : List ByteArray) (m1 m2 : List (Nat × Nat)) (f i : Nat) (at_ : Nat × Nat × Nat) (out : List S34) : Option (List S34) :=
 (mgo a b c (pxs a.length m1) (pxs a.length m2) f i at_ out).bind fun r => cutAt a b c r.1 (a.length, b.length, c.length) r.2
inductive Turn (a b c : List ByteArray) (m1 m2 : List (Nat × Nat)) (i p r : Nat) : Prop
 | last (h : ∀ j, i ≤ j → j < a.length → pt m1 j = none ∨ pt m2 j = none) (he : ∀ f out, a.length - i < f → mres a b c m1 m2 f i (i, p, r) out = some (out ++ gapP a b c (i, p, r) (a.length, b.length, c.length)))
 | next (t q s M : Nat) (h1 : i ≤ t) (h2 : t + M ≤ a.length) (hM : 1 ≤ M) (h : ∀ j, i ≤ j → j < t → pt m1 j = none ∨ pt m2 j = none) (hq : ∀ k, k < M → pt m1 (t + k) = some (q + k) ∧ pt m2 (t + k) = some (s + k)) (hs : ¬ (pt m1 (t + M) = some (q + M) ∧ pt m2 (t + M) = some (s + M)))
   (hp : p ≤ q) (hr : r ≤ s) (hqb : q + M ≤ b.length) (hsc : s + M ≤ c.length) (hb : Bnd m1 m2 (t + M) (q + M) (s + M))
   (he : ∀ f out, a.length - i < f → ∃ f', a.length - (t + M) < f' ∧ mres a b c m1 m2 f i (i, p, r) out = mres a b c m1 m2 f' (t + M) (t + M, q + M, s + M) (out ++ gapP a b c (i, p, r) (t, q, s) ++ [⟨1, segL a t (t + M), segL a t (t + M), segL a t (t + M)⟩]))
theorem pn_nonneg {o : Option Nat} : decide (0 ≤ pn o) = o.isSome := by
 cases o with
 | none => rfl
 | some u => simp [pn]
theorem turn {a b c : List ByteArray} {m1 m2 : List (Nat × Nat)} (h1 : Match a b 0 0 m1) (h2 : Match a c 0 0 m2) (i p r : Nat) (hi : i ≤ a.length) (hb : Bnd m1 m2 i p r) : Turn a b c m1 m2 i p r := by
 have hboth : ∀ j, j < a.length → mboth (pxs a.length m1) (pxs a.length m2) j = ((pt m1 j).isSome && (pt m2 j).isSome) := fun j hj => by
  unfold mboth
  rw [pxs_at h1 j hj, pxs_at h2 j hj, pn_nonneg, pn_nonneg]
 have hpb : p ≤ b.length ∧ r ≤ c.length := by
  rcases hb with ⟨_, rfl, rfl⟩ | ⟨f, u, v, _, rfl, rfl, e1, e2⟩
  ·omega
  ·obtain ⟨_, _, _, g1, _⟩ := pt_some h1 e1
   obtain ⟨_, _, _, g2, _⟩ := pt_some h2 e2
   omega
 obtain ⟨t, g1, g2, g3, g4⟩ := ex_next (fun j => (pt m1 j).isSome && (pt m2 j).isSome) (a.length - i) i a.length (by omega)
 have hno : ∀ j, i ≤ j → j < t → pt m1 j = none ∨ pt m2 j = none := fun j k1 k2 => by
  have := g3 j k1 k2
  simp only [Bool.and_eq_false_iff, Option.isSome_eq_false_iff, Option.isNone_iff_eq_none] at this
  exact this
 have hsk : ∀ f out, mgo a b c (pxs a.length m1) (pxs a.length m2) (f + (t - i)) i (i, p, r) out = mgo a b c (pxs a.length m1) (pxs a.length m2) f t (i, p, r) out := fun f out => by
  have := mgo_skip a b c (pxs a.length m1) (pxs a.length m2) (i, p, r) out (t - i) f i (by omega) (fun j k1 k2 => by
   rw [hboth j (by omega)]
   exact g3 j k1 (by omega))
  rwa [show i + (t - i) = t by omega] at this
 rcases g4 with rfl | ⟨ht, hp⟩
 ·refine .last hno (fun f out hf => ?_)
  obtain ⟨f', rfl⟩ : ∃ f', f = (f' + 1) + (a.length - i) := ⟨f - 1 - (a.length - i), by omega⟩
  unfold mres
  rw [hsk, mgo, if_neg (by omega)]
  exact cutAt_gap a b c (i, p, r) _ out ⟨by simpa using hi, Nat.le_refl _, by simpa using hpb.1, Nat.le_refl _, by simpa using hpb.2, Nat.le_refl _⟩
 ·rw [Bool.and_eq_true, Option.isSome_iff_exists, Option.isSome_iff_exists] at hp
  obtain ⟨⟨q, hq⟩, ⟨s, hs⟩⟩ := hp
  obtain ⟨_, _, _, hqb, _⟩ := pt_some h1 hq
  obtain ⟨_, _, _, hsc, _⟩ := pt_some h2 hs
  have hpq : p ≤ q ∧ r ≤ s := by
   rcases hb with ⟨_, rfl, rfl⟩ | ⟨f, u, v, rfl, rfl, rfl, e1, e2⟩
   ·omega
   ·have := pt_mono h1 e1 hq (by omega)
    have := pt_mono h2 e2 hs (by omega)
    omega
  have xq : (pxs a.length m1).getD t 0 = (q : Int) := by rw [pxs_at h1 t ht, hq]; rfl
  have ys : (pxs a.length m2).getD t 0 = (s : Int) := by rw [pxs_at h2 t ht, hs]; rfl
  obtain ⟨M, hM⟩ : ∃ M, M = mrun (pxs a.length m1) (pxs a.length m2) a.length t a.length 1 := ⟨_, rfl⟩
  have hM1 := mrun_ge (pxs a.length m1) (pxs a.length m2) a.length t a.length 1
  have hM2 := mrun_le (pxs a.length m1) (pxs a.length m2) a.length t a.length 1 (by omega)
  have hsp := mrun_spec (pxs a.length m1) (pxs a.length m2) a.length t a.length 1 (Nat.le_refl _) (by omega)
  rw [← hM] at hM1 hM2 hsp
  have hruns : ∀ k, t + k < a.length → (mruns (pxs a.length m1) (pxs a.length m2) a.length t k = true ↔ pt m1 (t + k) = some (q + k) ∧ pt m2 (t + k) = some (s + k)) := fun k hk => by
   rw [mruns_eq xq ys, pxs_at h1 _ hk, pxs_at h2 _ hk]
   simp only [Bool.and_eq_true, decide_eq_true_eq]
   have hpn : ∀ (o : Option Nat) (z : Nat), pn o = ((z : Nat) : Int) ↔ o = some z := fun o z => by
    cases o with
    | none => simp [pn]
    | some w => simp only [pn, Option.some.injEq]; omega
   rw [hpn, hpn]
   exact ⟨fun h => h.2, fun h => ⟨hk, h⟩⟩
  have hrun : ∀ k, k < M → pt m1 (t + k) = some (q + k) ∧ pt m2 (t + k) = some (s + k) := fun k hk => by
   by_cases e : k = 0
   ·subst e; exact ⟨hq, hs⟩
   ·exact (hruns k (by omega)).1 (hsp.1 k (by omega) hk)
  have hstop : ¬ (pt m1 (t + M) = some (q + M) ∧ pt m2 (t + M) = some (s + M)) := fun h => by
   by_cases e : t + M < a.length
   ·have := (hruns M e).2 h
    rw [hsp.2] at this
    cases this
   ·obtain ⟨_, _, g, _⟩ := pt_some h1 h.1
    omega
  have hl := hrun (M - 1) (by omega)
  obtain ⟨_, _, _, hqM, _⟩ := pt_some h1 hl.1
  obtain ⟨_, _, _, hsM, _⟩ := pt_some h2 hl.2
  have hbn : Bnd m1 m2 (t + M) (q + M) (s + M) := .inr ⟨t + (M - 1), q + (M - 1), s + (M - 1), by omega, by omega, by omega, hl.1, hl.2⟩
  refine .next t q s M g1 hM2 hM1 hno hrun hstop hpq.1 hpq.2 (by omega) (by omega) hbn (fun f out hf => ?_)
  obtain ⟨f', rfl⟩ : ∃ f', f = (f' + 1) + (t - i) := ⟨f - 1 - (t - i), by omega⟩
  refine ⟨f', by omega, ?_⟩
  unfold mres
  have hbt : mboth (pxs a.length m1) (pxs a.length m2) t = true := by rw [hboth t ht, hq, hs]; rfl
  rw [hsk, mgo, if_pos ht, hbt, if_pos rfl, xq, ys, Int.toNat_natCast, Int.toNat_natCast, ← hM, cutAt_gap a b c (i, p, r) (t, q, s) out ⟨g1, by simpa using Nat.le_of_lt ht, hpq.1, by simpa using Nat.le_of_lt hqb, hpq.2, by simpa using Nat.le_of_lt hsc⟩, Option.bind_some, cutAt_gap a b c (t, q, s) (t + M, q + M, s + M) _ ⟨by simp, hM2, by simp, by simp; omega, by simp, by simp; omega⟩, Option.bind_some]
  have hg : gapP a b c (t, q, s) (t + M, q + M, s + M) = [⟨1, segL a t (t + M), segL a t (t + M), segL a t (t + M)⟩] := by
   unfold gapP
   rw [if_neg (by simp; omega)]
   have e1 : segL b q (q + M) = segL a t (t + M) := seg_match a b t q M hM2 (by omega) (fun k k1 k2 hk => by
    obtain ⟨_, _, _, _, e⟩ := pt_some h1 (hrun k hk).1
    exact e)
   have e2 : segL c s (s + M) = segL a t (t + M) := seg_match a c t s M hM2 (by omega) (fun k k1 k2 hk => by
    obtain ⟨_, _, _, _, e⟩ := pt_some h2 (hrun k hk).2
    exact e)
   simp only
   rw [e1, e2]
   unfold mkPiece
   rw [kind_kept]
  rw [hg]
end Go.Proofs.Ytahpbpacjciddaa.Pr
end
section
namespace Go.Proofs.Ytahpbpacjciddaa.Pr
open Go.RowKit Go.Proofs.YtahpbpacjciddaaW.PrintWords Go.Proofs.YtahpbpacjciddaaW.PrintLast Go.Proofs.YtahpbpacjciddaaW.PrintMore
set_option linter.unusedVariables false
set_option linter.unusedSimpArgs false
theorem segL_nil {l : List ByteArray} {p q : Nat} (hpq : p ≤ q) (hq : q ≤ l.length) : segL l p q = [] ↔ p = q := by
 rw [← List.length_eq_zero_iff]
 unfold segL
 rw [List.length_drop, List.length_take]
 omega
theorem segL_len {l : List ByteArray} {p q : Nat} (hq : q ≤ l.length) : (segL l p q).length = q - p := by
 unfold segL
 rw [List.length_drop, List.length_take]
 omega
inductive Run (a b c : List ByteArray) (m1 m2 : List (Nat × Nat)) : Nat → Nat → Nat → List S34 → Prop
 | last (i p r : Nat) (hi : i ≤ a.length) (hp : p ≤ b.length) (hr : r ≤ c.length) (hB : Bnd m1 m2 i p r) (hn : ∀ j, i ≤ j → j < a.length → pt m1 j = none ∨ pt m2 j = none) : Run a b c m1 m2 i p r (gapP a b c (i, p, r) (a.length, b.length, c.length))
 | next (i p r t q s M : Nat) (R : List S34) (hB : Bnd m1 m2 i p r) (h1 : i ≤ t) (h2 : t + M ≤ a.length) (hM : 1 ≤ M) (hn : ∀ j, i ≤ j → j < t → pt m1 j = none ∨ pt m2 j = none) (hq : ∀ k, k < M → pt m1 (t + k) = some (q + k) ∧ pt m2 (t + k) = some (s + k)) (hs : ¬ (pt m1 (t + M) = some (q + M) ∧ pt m2 (t + M) = some (s + M)))
   (hp : p ≤ q) (hr : r ≤ s) (hqb : q + M ≤ b.length) (hsc : s + M ≤ c.length) (hR : Run a b c m1 m2 (t + M) (q + M) (s + M) R) : Run a b c m1 m2 i p r (gapP a b c (i, p, r) (t, q, s) ++ ⟨1, segL a t (t + M), segL a t (t + M), segL a t (t + M)⟩ :: R)
theorem run_ex {a b c : List ByteArray} {m1 m2 : List (Nat × Nat)} (h1 : Match a b 0 0 m1) (h2 : Match a c 0 0 m2) : ∀ (d i p r : Nat), i + d = a.length → Bnd m1 m2 i p r → ∃ R, Run a b c m1 m2 i p r R ∧ ∀ f out, a.length - i < f → mres a b c m1 m2 f i (i, p, r) out = some (out ++ R) := by
 intro d
 induction d using Nat.strongRecOn with
 | _ d ih =>
 intro i p r hd hB
 have hpb : p ≤ b.length ∧ r ≤ c.length := by
  rcases hB with ⟨_, rfl, rfl⟩ | ⟨f, u, v, _, rfl, rfl, e1, e2⟩
  ·omega
  ·obtain ⟨_, _, _, g1, _⟩ := pt_some h1 e1
   obtain ⟨_, _, _, g2, _⟩ := pt_some h2 e2
   omega
 cases turn h1 h2 i p r (by omega) hB with
 | last hn he => exact ⟨_, .last i p r (by omega) hpb.1 hpb.2 hB hn, he⟩
 | next t q s M g1 g2 hM hn hq hs hp hr hqb hsc hb2 he =>
  obtain ⟨R, hR, hRe⟩ := ih (a.length - (t + M)) (by omega) (t + M) (q + M) (s + M) (by omega) hb2
  refine ⟨_, .next i p r t q s M R hB g1 g2 hM hn hq hs hp hr hqb hsc hR, fun f out hf => ?_⟩
  obtain ⟨f', hf', e⟩ := he f out hf
  rw [e, hRe f' _ hf']
  simp only [List.append_assoc, List.singleton_append]
noncomputable def mergeOf (a b c : List ByteArray) : List S34 := (mres a b c (bestOf a b) (bestOf a c) (a.length + 1) 0 (0, 0, 0) []).getD []
theorem mergeOf_run (a b c : List ByteArray) : Run a b c (bestOf a b) (bestOf a c) 0 0 0 (mergeOf a b c) ∧ mres a b c (bestOf a b) (bestOf a c) (a.length + 1) 0 (0, 0, 0) [] = some (mergeOf a b c) := by
 obtain ⟨R, h1, h2⟩ := run_ex (bestOf_greedy a b).match (bestOf_greedy a c).match a.length 0 0 0 (by omega) (.inl ⟨rfl, rfl, rfl⟩)
 have h3 := h2 (a.length + 1) [] (by omega)
 rw [List.nil_append] at h3
 have e : mergeOf a b c = R := by
  unfold mergeOf
  rw [h3]
  rfl
 rw [e]
 exact ⟨h1, h3⟩
def triErr (a b c : List ByteArray) : Int := if linesErr a = 0 then (if linesErr b = 0 then linesErr c else linesErr b) else linesErr a
theorem triErr_zero {a b c : List ByteArray} : triErr a b c = 0 ↔ linesErr a = 0 ∧ linesErr b = 0 ∧ linesErr c = 0 := by
 unfold triErr
 split
 ·rename_i h
  split
  ·rename_i h2
   exact ⟨fun h3 => ⟨h, h2, h3⟩, fun h => h.2.2⟩
  ·rename_i h2
   exact ⟨fun h => absurd h h2, fun h => absurd h.2.1 h2⟩
 ·rename_i h
  exact ⟨fun g => absurd g h, fun g => absurd g.1 h⟩
noncomputable def mergeR (a b c : List ByteArray) : List S34 × Int := if triErr a b c = 0 then (mergeOf a b c, 0) else ([], triErr a b c)
theorem join_snd {l : List ByteArray} (hs : small l) : ∃ x, lines_Join.f l = some (x, linesErr l) := by
 rw [join_val l hs]
 by_cases h : linesErr l = 0
 ·rw [if_pos h, h]
  exact ⟨_, rfl⟩
 ·rw [if_neg h]
  exact ⟨_, rfl⟩
theorem merge_ev (a b c : List ByteArray) (ha : small a) (hb : small b) (hc : small c) : Ev (fun k => merge_Merge.f k a b c) (mergeR a b c) := by
 obtain ⟨x, hx⟩ := join_snd ha
 obtain ⟨y, hy⟩ := join_snd hb
 obtain ⟨z, hz⟩ := join_snd hc
 unfold merge_Merge.f mergeR triErr
 refine Ev.bc hx ?_
 by_cases e1 : linesErr a = 0
 ·rw [if_pos e1]
  refine Ev.pos e1 ?_
  unfold mm1
  refine Ev.bc hy ?_
  by_cases e2 : linesErr b = 0
  ·rw [if_pos e2]
   refine Ev.pos e2 ?_
   unfold mm2
   refine Ev.bc hz ?_
   by_cases e3 : linesErr c = 0
   ·rw [if_pos e3]
    refine Ev.pos e3 ?_
    unfold mm3
    refine Ev.bd (pairs_ev a b ha hb) (Ev.bd (pairs_ev a c ha hc) (Ev.ke ?_))
    rw [if_pos (bothErr_zero.2 ⟨e1, e2⟩), if_pos (bothErr_zero.2 ⟨e1, e3⟩)]
    unfold merge_Merge.g
    obtain ⟨l1, _⟩ := linesErr_zero e1
    obtain ⟨l2, _⟩ := linesErr_zero e2
    obtain ⟨l3, _⟩ := linesErr_zero e3
    rw [if_pos (by
     rw [pxs_fits (bestOf_greedy a b).match (by omega), pxs_fits (bestOf_greedy a c).match (by omega), decide_eq_true (show a.length ≤ 400000 by omega), decide_eq_true (show b.length ≤ 400000 by omega), decide_eq_true (show c.length ≤ 400000 by omega)]
     rfl)]
    have h := (mergeOf_run a b c).2
    unfold mres at h
    obtain ⟨r, h1, h2⟩ := Option.bind_eq_some_iff.1 h
    show ((mgo a b c (pxs a.length (bestOf a b)) (pxs a.length (bestOf a c)) (a.length + 1) 0 (0, 0, 0) []).bind _) = _
    rw [h1, Option.bind_some, h2]
    rfl
   ·rw [if_neg e3]
    exact Ev.neg e3 (Ev.rt rfl)
  ·rw [if_neg e2, if_neg e2]
   exact Ev.neg e2 (Ev.rt rfl)
 ·rw [if_neg e1, if_neg e1]
  exact Ev.neg e1 (Ev.rt rfl)
theorem gapP_mem {a b c : List ByteArray} {x y : Nat × Nat × Nat} {z : S34} (h : z ∈ gapP a b c x y) : z = mkPiece (segL a x.1 y.1) (segL b x.2.1 y.2.1) (segL c x.2.2 y.2.2) ∧ y ≠ x := by
 unfold gapP at h
 split at h
 ·cases h
 ·rename_i e
  exact ⟨List.mem_singleton.1 h, e⟩
theorem segL_le (l : List ByteArray) (x y : Nat) : (segL l x y).length ≤ l.length := by
 unfold segL
 rw [List.length_drop, List.length_take]
 omega
theorem gapP_len (a b c : List ByteArray) (x y : Nat × Nat × Nat) : (gapP a b c x y).length ≤ 1 := by
 unfold gapP
 split <;> simp
theorem run_short {a b c : List ByteArray} {m1 m2 : List (Nat × Nat)} {i p r : Nat} {R : List S34} (h : Run a b c m1 m2 i p r R) : R.length + 2 * i ≤ 2 * a.length + 1 ∧ ∀ x ∈ R, x.f1.length ≤ a.length ∧ x.f2.length ≤ max a.length b.length ∧ x.f3.length ≤ max a.length c.length := by
 have hg : ∀ x y, ∀ z ∈ gapP a b c x y, z.f1.length ≤ a.length ∧ z.f2.length ≤ max a.length b.length ∧ z.f3.length ≤ max a.length c.length := fun x y z hz => by
  obtain ⟨rfl, _⟩ := gapP_mem hz
  have g1 := segL_le a x.1 y.1
  have g2 := segL_le b x.2.1 y.2.1
  have g3 := segL_le c x.2.2 y.2.2
  refine ⟨g1, ?_, ?_⟩
  ·show (segL b x.2.1 y.2.1).length ≤ _
   omega
  ·show (segL c x.2.2 y.2.2).length ≤ _
   omega
 induction h with
 | last i p r hi hp hr hB hn =>
  have := gapP_len a b c (i, p, r) (a.length, b.length, c.length)
  exact ⟨by omega, hg _ _⟩
 | next i p r t q s M R hB h1 h2 hM hn hq hs hp hr hqb hsc hR ih =>
  have := gapP_len a b c (i, p, r) (t, q, s)
  refine ⟨by rw [List.length_append, List.length_cons]; omega, fun x hx => ?_⟩
  rcases List.mem_append.1 hx with hx | hx
  ·exact hg _ _ x hx
  ·rcases List.mem_cons.1 hx with rfl | hx
   ·have := segL_le a t (t + M)
    refine ⟨this, ?_, ?_⟩
    ·show (segL a t (t + M)).length ≤ _
     omega
    ·show (segL a t (t + M)).length ≤ _
     omega
   ·exact ih.2 x hx
end Go.Proofs.Ytahpbpacjciddaa.Pr
end
section
namespace Go.Proofs.Ytahpbpacjciddaa.Pr
open Go.RowKit Go.Proofs.YtahpbpacjciddaaW.PrintWords Go.Proofs.YtahpbpacjciddaaW.PrintLast Go.Proofs.YtahpbpacjciddaaW.PrintMore
set_option linter.unusedVariables false
set_option linter.unusedSimpArgs false
theorem both_ev (a b : List ByteArray) (ha : tiny a) (hb : tiny b) : Ev (fun k => sidingref14_Both.f k a b) (bothErr a b) := by
 unfold sidingref14_Both.f bothErr
 refine Ev.bd (rlines_ev a ha) ?_
 by_cases h : linesErr a = 0
 ·rw [if_pos h]
  exact Ev.pos h (Ev.bd (rlines_ev b hb) (Ev.now _))
 ·exact Ev.neg h (Ev.bd (rlines_ev a ha) (Ev.rt (if_neg h).symm))
end Go.Proofs.Ytahpbpacjciddaa.Pr
end
section
namespace Go.Proofs.Ytahpbpacjciddaa.Pr
open Go.RowKit Go.Proofs.YtahpbpacjciddaaW.PrintWords Go.Proofs.YtahpbpacjciddaaW.PrintLast Go.Proofs.YtahpbpacjciddaaW.PrintMore
set_option linter.unusedVariables false
set_option linter.unusedSimpArgs false
theorem found_val (a b : List ByteArray) (ha : a.length ≤ 60) (hb : b.length ≤ 60) : ref14_Found.f a b = some ((bestOf a b).map prOf) := by
 unfold ref14_Found.f
 rw [if_pos (by rw [decide_eq_true ha, decide_eq_true hb]; rfl), bestOf_gOf]
 rfl
theorem best_le (a b : List ByteArray) : (bestOf a b).length ≤ a.length := by
 rw [bestOf_length]
 exact lcsLen_le_left a b
end Go.Proofs.Ytahpbpacjciddaa.Pr
end
section
namespace Go.Proofs.Ytahpbpacjciddaa.Pr
open Go.RowKit Go.Proofs.YtahpbpacjciddaaW.PrintWords Go.Proofs.YtahpbpacjciddaaW.PrintLast Go.Proofs.YtahpbpacjciddaaW.PrintMore
set_option linter.unusedVariables false
set_option linter.unusedSimpArgs false
theorem rbest_ev (a b : List ByteArray) (ha : tiny a) (hb : tiny b) : Ev (fun k => sidingref14_Best.f k a b) (if bothErr a b = 0 then ((bestOf a b).map prOf, (0 : Int)) else (([] : List S77), bothErr a b)) := by
 unfold sidingref14_Best.f
 refine Ev.bd (both_ev a b ha hb) ?_
 by_cases h : bothErr a b = 0
 ·rw [if_pos h]
  obtain ⟨h1, h2⟩ := bothErr_zero.1 h
  obtain ⟨l1, _⟩ := linesErr_zero h1
  obtain ⟨l2, _⟩ := linesErr_zero h2
  have hl := best_le a b
  refine Ev.pos h (Ev.bs (Ev.bc (found_val a b l1 l2) (Ev.pos (by simp; omega) (Ev.rt ?_))))
  rw [List.nil_append]
 ·rw [if_neg h]
  exact Ev.neg h (Ev.bd (both_ev a b ha hb) (Ev.bs (Ev.now _)))
end Go.Proofs.Ytahpbpacjciddaa.Pr
end
section
namespace Go.Proofs.Ytahpbpacjciddaa.Pr
open Go.RowKit Go.Proofs.YtahpbpacjciddaaW.PrintWords Go.Proofs.YtahpbpacjciddaaW.PrintLast Go.Proofs.YtahpbpacjciddaaW.PrintMore
set_option linter.unusedVariables false
set_option linter.unusedSimpArgs false
theorem seg_snoc (a : List ByteArray) {x y : Nat} (hxy : x ≤ y) (hy : y < a.length) : (a.take y).drop x ++ [a.getD y ByteArray.empty] = (a.take (y + 1)).drop x := by
 rw [← seg_join a hxy (Nat.le_succ y), take_one_drop a y hy, List.getD_eq_getElem?_getD, List.getElem?_eq_getElem hy]
 rfl
theorem seg_self (a : List ByteArray) (x : Nat) : (a.take x).drop x = [] := List.drop_eq_nil_of_le (by rw [List.length_take]; omega)
theorem rdiff_piece (a b : List ByteArray) (M : List S77) (p P Q i0 k0 : Nat) (hP : P ≤ a.length) (hQ : Q ≤ b.length) (hM : M[p]? = none ∧ P = a.length ∧ Q = b.length ∨ M[p]? = some (prOf (P, Q))) (out : List S82) :
  ∀ (d n i k : Nat) (cur : Option S82), (P - i) + (Q - k) = d → i0 ≤ i → i ≤ P → k0 ≤ k → k ≤ Q → (i < P → k = k0) → cur.getD ⟨i, [], []⟩ = ⟨(i0 : Int), (a.take i).drop i0, (b.take k).drop k0⟩ →
   ∃ cur', rdiff a b M (n + d) i k p out cur = rdiff a b M n P Q p out cur' ∧ cur'.toList = (if 0 < d then [⟨(i0 : Int), (a.take P).drop i0, (b.take Q).drop k0⟩] else cur.toList) := by
 intro d
 induction d with
 | zero =>
  intro n i k cur hd h1 h2 h3 h4 h5 h6
  obtain rfl : i = P := by omega
  obtain rfl : k = Q := by omega
  exact ⟨cur, rfl, rfl⟩
 | succ d ih =>
  intro n i k cur hd h1 h2 h3 h4 h5 h6
  have hmore : i < a.length ∨ k < b.length := by omega
  have hhit : rdiff.hit M i k p = false := by
   unfold rdiff.hit
   rcases hM with ⟨hM, _⟩ | hM
   ·rw [hM]
   ·rw [hM]
    show (decide ((P : Int) = (i : Int)) && decide ((Q : Int) = (k : Int))) = false
    simp only [Bool.and_eq_false_iff, decide_eq_false_iff_not]
    omega
  have hold : rdiff.old a M i p = decide (i < P) := by
   unfold rdiff.old
   rcases hM with ⟨hM, e1, e2⟩ | hM
   ·rw [hM, e1, Bool.and_true]
   ·rw [hM]
    show (decide (i < a.length) && decide ((i : Int) < (P : Int))) = decide (i < P)
    rw [Bool.eq_iff_iff]
    simp only [Bool.and_eq_true, decide_eq_true_eq]
    omega
  rw [show n + (d + 1) = (n + d) + 1 by omega, rdiff, if_pos hmore, hhit, if_neg Bool.false_ne_true, h6, hold]
  by_cases hi : i < P
  ·rw [decide_eq_true hi, if_pos rfl]
   obtain rfl := h5 hi
   have hc := ih n (i + 1) k (some ⟨(i0 : Int), (a.take i).drop i0 ++ [a.getD i ByteArray.empty], (b.take k).drop k⟩) (by omega) (by omega) (by omega) h3 h4 (fun _ => rfl) (by rw [seg_snoc a h1 (by omega)]; rfl)
   obtain ⟨cur', e1, e2⟩ := hc
   refine ⟨cur', e1, ?_⟩
   rw [if_pos (by omega), e2]
   split
   ·rfl
   ·rename_i hd0
    have e3 : P = i + 1 := by omega
    have e4 : Q = k := by omega
    subst e3 e4
    rw [seg_snoc a h1 (by omega)]
    rfl
  ·rw [decide_eq_false hi, if_neg Bool.false_ne_true, if_pos (by omega)]
   obtain rfl : i = P := by omega
   have hc := ih n i (k + 1) (some ⟨(i0 : Int), (a.take i).drop i0, (b.take k).drop k0 ++ [b.getD k ByteArray.empty]⟩) (by omega) h1 (Nat.le_refl _) (by omega) (by omega) (fun h => by omega) (by rw [seg_snoc b h3 (by omega)]; rfl)
   obtain ⟨cur', e1, e2⟩ := hc
   refine ⟨cur', e1, ?_⟩
   rw [if_pos (by omega), e2]
   split
   ·rfl
   ·rename_i hd0
    have e4 : Q = k + 1 := by omega
    subst e4
    rw [seg_snoc b h3 (by omega)]
    rfl
theorem rdiff_all (a b : List ByteArray) (M : List S77) : ∀ (m : List (Nat × Nat)) (n i k p : Nat) (out : List S82), Match a b i k m → i ≤ a.length → k ≤ b.length → M.drop p = m.map prOf → (a.length - i) + (b.length - k) < n →
  rdiff a b M n i k p out none = some (out ++ diffL a b i k m) := by
 intro m
 induction m with
 | nil =>
  intro n i k p out hm hi hk hM hn
  have hMp : M[p]? = none := by
   rw [List.getElem?_eq_none_iff]
   have := congrArg List.length hM
   rw [List.length_drop] at this
   simp at this
   omega
  obtain ⟨n', rfl⟩ : ∃ n', n = (n' + 1) + ((a.length - i) + (b.length - k)) := ⟨n - 1 - ((a.length - i) + (b.length - k)), by omega⟩
  obtain ⟨cur', e1, e2⟩ := rdiff_piece a b M p a.length b.length i k (Nat.le_refl _) (Nat.le_refl _) (.inl ⟨hMp, rfl, rfl⟩) out _ (n' + 1) i k none rfl (Nat.le_refl _) hi (Nat.le_refl _) hk (fun _ => rfl) (by rw [seg_self, seg_self]; rfl)
  rw [e1, rdiff, if_neg (by omega), e2, diffL_nil]
  congr 2
  by_cases h : i < a.length ∨ k < b.length
  ·rw [pieceL_pos h, if_pos (by omega)]
  ·rw [pieceL_neg h, if_neg (by omega)]
   rfl
 | cons q m ih =>
  intro n i k p out hm hi hk hM hn
  cases hm with
  | cons _ _ _ _ h1 h2 h3 h4 he hm =>
   have hMp : M[p]? = some (prOf (q.1, q.2)) := by
    have h := congrArg (fun l => l[0]?) hM
    simpa using h
   have hMs : M.drop (p + 1) = m.map prOf := by
    rw [← List.drop_drop, hM]
    rfl
   obtain ⟨n', rfl⟩ : ∃ n', n = (n' + 1) + ((q.1 - i) + (q.2 - k)) := ⟨n - 1 - ((q.1 - i) + (q.2 - k)), by omega⟩
   obtain ⟨cur', e1, e2⟩ := rdiff_piece a b M p q.1 q.2 i k (by omega) (by omega) (.inr hMp) out _ (n' + 1) i k none rfl (Nat.le_refl _) h1 (Nat.le_refl _) h2 (fun _ => rfl) (by rw [seg_self, seg_self]; rfl)
   have hhit : rdiff.hit M q.1 q.2 p = true := by
    unfold rdiff.hit
    rw [hMp]
    simp [prOf]
   rw [e1, rdiff, if_pos (by omega), hhit, if_pos rfl, ih n' (q.1 + 1) (q.2 + 1) (p + 1) _ hm (by omega) (by omega) hMs (by omega), e2, diffL_cons, List.append_assoc]
   congr 3
   by_cases h : i < q.1 ∨ k < q.2
   ·rw [pieceL_pos h, if_pos (by omega)]
   ·rw [pieceL_neg h, if_neg (by omega)]
    rfl
theorem rdiff_ev (a b : List ByteArray) (ha : tiny a) (hb : tiny b) : Ev (fun k => ref15_Diff.f k a b) (if bothErr a b = 0 then (diffL a b 0 0 (bestOf a b), (0 : Int)) else (([] : List S82), bothErr a b)) := by
 unfold ref15_Diff.f
 refine Ev.bd (rbest_ev a b ha hb) (Ev.ke ?_)
 unfold ref15_Diff.g
 by_cases h : bothErr a b = 0
 ·rw [if_pos h, if_pos h]
  have hz := bothErr_zero.1 h
  have l0 := (linesErr_zero hz.1).1
  have l1 := (linesErr_zero hz.2).1
  have l2 := best_le a b
  rw [if_pos rfl, if_pos ⟨by omega, by omega, by rw [List.length_map]; omega⟩]
  rw [rdiff_all a b _ (bestOf a b) _ 0 0 0 [] (bestOf_greedy a b).match (Nat.zero_le _) (Nat.zero_le _) (by rw [List.drop_zero]) (by omega)]
  rfl
 ·rw [if_neg h, if_neg h, if_neg h]
end Go.Proofs.Ytahpbpacjciddaa.Pr
end
