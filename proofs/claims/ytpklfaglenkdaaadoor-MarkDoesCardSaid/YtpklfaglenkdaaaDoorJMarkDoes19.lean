/- Part 19 of the proof of MarkDoes: texts put together. -/
import Derived.Test.YtpklfaglenkdaaaDoorJMarkDoes4
import Derived.Test.YtpklfaglenkdaaaDoorJMarkDoes5
import Derived.Test.YtpklfaglenkdaaaDoorJMarkDoes7
import Derived.Test.YtpklfaglenkdaaaDoorJMarkDoes8
import Derived.Test.YtpklfaglenkdaaaDoorJMarkDoes11
import Derived.Test.YtpklfaglenkdaaaDoorJMarkDoes12
import Derived.Test.YtpklfaglenkdaaaDoorJMarkDoes13
import Derived.Test.YtpklfaglenkdaaaDoorJMarkDoes14
import Derived.Test.YtpklfaglenkdaaaDoorJMarkDoes15
import Derived.Test.YtpklfaglenkdaaaDoorJMarkDoes16
import Derived.Test.YtpklfaglenkdaaaDoorJMarkDoes17
import Derived.Test.YtpklfaglenkdaaaDoorJMarkDoes18
import Derived.Lib.IndexBytes
set_option linter.unusedVariables false
set_option linter.unusedSimpArgs false
section
namespace Go.Proofs.YtpklfaglenkdaaaDoor.Pr
open Go.RowKit Go.Proofs.YtpklfaglenkdaaaDoorW.PrintWords Go.Proofs.YtpklfaglenkdaaaDoorW.PrintLast Go.Proofs.YtpklfaglenkdaaaDoorW.PrintMore
attribute [local go_sem] max2_int min2_int max_two min_two max_three min_three max_four min_four   
def sidinglaw19_MarkDoes.j0 : Nat → List (S43) → List ByteArray → List Int → Bool → Option (Bool)
  | 0, _, _, _, _ => none
  | k + 1, x0, x1, x2, x30 => if x30 = true then (some true) else ((some (([] : List ByteArray) : List ByteArray)).bind fun y307 => (if y307.length + x1.length < 8796093022208 then ((some (y307 ++ x1 : List ByteArray)).bind fun y310 => ((mark_Write.f k x0).bind fun bt313 => ((sidingref19_Write.f k x0).bind fun bt317 => ((mark_Read.f k y310).bind fun bt321 => ((ref19_Read.f k x1).bind fun bt325 => ((mark_Choose.f k x0 x2).bind fun bt329 => ((sidingref19_Choose.f k x0 x2).bind fun bt333 => ((sidingref13_Same.f k bt313.1 bt317.1).bind fun t337 => (if t337 = true then (if bt313.2 = bt317.2 then ((sidingref18_Same.f k bt321.1 bt325.1).bind fun t338 => (if t338 = true then (if bt321.2 = bt325.2 then ((sidingref13_Same.f k bt329.1 bt333.1).bind fun t339 => (if t339 = true then (if bt329.2 = bt333.2 then ((sidingref13_Same.f k y310 x1).bind fun t340 => (some t340)) else (some false)) else (some false))) else (some false)) else (some false))) else (some false)) else (some false)))))))))) else (none)))
def sidinglaw19_MarkDoes.f (k : Nat) (l0 : List (S43)) (l1 : List ByteArray) (l2 : List Int) : Option (Bool) := (sidingref18_Long.f k l0).bind fun t305 => (if t305 = true then (sidinglaw19_MarkDoes.j0 k l0 l1 l2 true) else ((sidingref19_Long.f k l1).bind fun t306 => (if t306 = true then (sidinglaw19_MarkDoes.j0 k l0 l1 l2 true) else (sidinglaw19_MarkDoes.j0 k l0 l1 l2 (decide ((l2.length : Int) > 300))))))
set_option maxHeartbeats 8000000 in
set_option maxRecDepth 100000 in
theorem sidinglaw19_MarkDoes.calls (k : Nat) (A0 : Option Addr) (c0 : Nat) (l0 : List (S43)) (A1 : Option Addr) (c1 : Nat) (l1 : List ByteArray) (A2 : Option Addr) (c2 : Nat) (l2 : List Int) (r : Bool) (w : World) (hr0 : Kd.C k43 w A0 l0.length l0) (hc0 : l0.length ≤ c0) (hr1 : Kd.C Kd.string w A1 l1.length l1) (hc1 : l1.length ≤ c1) (hr2 : Kd.C (Kd.int .u8) w A2 l2.length l2) (hc2 : l2.length ≤ c2) (h : sidinglaw19_MarkDoes.f k l0 l1 l2 = some r) (hr_ : Aside0 (r = true)) :
  Calls Tryd.prog 3 #[.slice A0 l0.length c0, .slice A1 l1.length c1, .slice A2 l2.length c2] w fun e w' => e = .returned (.bool r) ∧ Below w.heap.size w w' := by
 have HR0 := Aside0.mk hr0
 have HC0 := Aside0.mk hc0
 clear hr0 hc0
 have HR1 := Aside0.mk hr1
 have HC1 := Aside0.mk hc1
 clear hr1 hc1
 have HR2 := Aside0.mk hr2
 have HC2 := Aside0.mk hc2
 clear hr2 hc2
 have HB := Aside0.mk (Below.refl w.heap.size w)
 have H : ((sidingref18_Long.f k l0).bind fun t305 => (if t305 = true then (sidinglaw19_MarkDoes.j0 k l0 l1 l2 true) else ((sidingref19_Long.f k l1).bind fun t306 => (if t306 = true then (sidinglaw19_MarkDoes.j0 k l0 l1 l2 true) else (sidinglaw19_MarkDoes.j0 k l0 l1 l2 (decide ((l2.length : Int) > 300))))))) = some r := h
 clear h
 have HC4 := Aside0.mk H
 clear H
 go_enter Tryd.func3, Tryd.ntmps3
 go_upto_region 1 with (fail)
 go_cut [30] (fun v30 wc => ∃ (kq : Nat) (x30_3 : Bool), v30 = .bool x30_3 ∧ Aside0 (sidinglaw19_MarkDoes.j0 kq l0 l1 l2 x30_3 = some r) ∧ Aside0 (kq ≤ k) ∧ Aside0 (Below w.heap.size w wc))
 case first =>
  have H := HC4.out
  clear HC4
  replace H := Option.bind_eq_some_iff.mp H
  obtain ⟨t305, A50, H⟩ := H
  replace H : (if t305 = true then (sidinglaw19_MarkDoes.j0 k l0 l1 l2 true) else ((sidingref19_Long.f k l1).bind fun t306 => (if t306 = true then (sidinglaw19_MarkDoes.j0 k l0 l1 l2 true) else (sidinglaw19_MarkDoes.j0 k l0 l1 l2 (decide ((l2.length : Int) > 300)))))) = some r := H
  have A5 := Aside0.mk A50
  clear A50
  by_cases c6 : t305 = true
  ·subst c6
   have H1 : (sidinglaw19_MarkDoes.j0 k l0 l1 l2 true) = some r := by rw [if_pos rfl] at H; exact H
   clear H
   have H := H1
   clear H1
   have H' := Aside0.mk H
   clear H
   go_wp2_with (first | ((with_reducible refine gate_callee (f := 8) rfl ?_); refine goesL_ (some 21) rfl rfl Tryd.func8 (by kernel_rfl) rfl #[.slice A0 l0.length c0] rfl (by (try simp only [List.map_toArray, List.map_cons, List.map_nil]); first | done | rfl | (simp only [List.length_drop, List.length_take]; rfl)) ?_; (with_reducible refine (sidingref18_Long.calls k _ _ l0 true _ ?side1 ?side2 A5.out).mono ?_); (case side1 => repeat (first | exact (Kd.C_below HR0.out HB.out) | (with_reducible refine Kd.C_alloc ?_ _) | (with_reducible refine Kd.C_drewN ?_ _) | (with_reducible refine Kd.C_drew ?_))); (case side2 => exact HC0.out); rintro e w' ⟨rfl, ⟨nd, rfl⟩⟩; refine ⟨_, rfl, ?_⟩))
   go_meet
   case rel => exact ⟨_, (true), (by first | rfl | (simp; done) | (simp [*]; done)), H', ⟨by first | omega | exact Nat.le_refl _⟩, ⟨by repeat (first | (with_reducible first | exact HB.out | apply below_alloc | apply pw_below_drewN | apply below_drew1) | exact HB.out)⟩⟩
  ·replace c6 := Bool.eq_false_iff.mpr c6
   subst c6
   have H1 : ((sidingref19_Long.f k l1).bind fun t306 => (if t306 = true then (sidinglaw19_MarkDoes.j0 k l0 l1 l2 true) else (sidinglaw19_MarkDoes.j0 k l0 l1 l2 (decide ((l2.length : Int) > 300))))) = some r := by rw [if_neg (show ¬ (false = true) by decide)] at H; exact H
   clear H
   have H := H1
   clear H1
   replace H := Option.bind_eq_some_iff.mp H
   obtain ⟨t306, A70, H⟩ := H
   replace H : (if t306 = true then (sidinglaw19_MarkDoes.j0 k l0 l1 l2 true) else (sidinglaw19_MarkDoes.j0 k l0 l1 l2 (decide ((l2.length : Int) > 300)))) = some r := H
   have A7 := Aside0.mk A70
   clear A70
   by_cases c8 : t306 = true
   ·subst c8
    have H1 : (sidinglaw19_MarkDoes.j0 k l0 l1 l2 true) = some r := by rw [if_pos rfl] at H; exact H
    clear H
    have H := H1
    clear H1
    have H' := Aside0.mk H
    clear H
    go_wp2_with (first | ((with_reducible refine gate_callee (f := 8) rfl ?_); refine goesL_ (some 21) rfl rfl Tryd.func8 (by kernel_rfl) rfl #[.slice A0 l0.length c0] rfl (by (try simp only [List.map_toArray, List.map_cons, List.map_nil]); first | done | rfl | (simp only [List.length_drop, List.length_take]; rfl)) ?_; (with_reducible refine (sidingref18_Long.calls k _ _ l0 false _ ?side1 ?side2 A5.out).mono ?_); (case side1 => repeat (first | exact (Kd.C_below HR0.out HB.out) | (with_reducible refine Kd.C_alloc ?_ _) | (with_reducible refine Kd.C_drewN ?_ _) | (with_reducible refine Kd.C_drew ?_))); (case side2 => exact HC0.out); rintro e w' ⟨rfl, ⟨nd, rfl⟩⟩; refine ⟨_, rfl, ?_⟩) | (go_at_call 9; (with_reducible refine (sidingref19_Long.calls k _ _ l1 true _ ?side1 ?side2 A7.out).mono ?_); (case side1 => repeat (first | exact (Kd.C_below HR1.out (by repeat (first | (with_reducible first | exact HB.out | apply below_alloc | apply pw_below_drewN | apply below_drew1) | exact HB.out))) | (with_reducible refine Kd.C_alloc ?_ _) | (with_reducible refine Kd.C_drewN ?_ _) | (with_reducible refine Kd.C_drew ?_))); (case side2 => exact HC1.out); rintro e w' ⟨rfl, ⟨nd, rfl⟩⟩))
    go_meet
    case rel => exact ⟨_, (true), (by first | rfl | (simp; done) | (simp [*]; done)), H', ⟨by first | omega | exact Nat.le_refl _⟩, ⟨by repeat (first | (with_reducible first | exact HB.out | apply below_alloc | apply pw_below_drewN | apply below_drew1) | exact HB.out)⟩⟩
   ·replace c8 := Bool.eq_false_iff.mpr c8
    subst c8
    have H1 : (sidinglaw19_MarkDoes.j0 k l0 l1 l2 (decide ((l2.length : Int) > 300))) = some r := by rw [if_neg (show ¬ (false = true) by decide)] at H; exact H
    clear H
    have H := H1
    clear H1
    have H' := Aside0.mk H
    clear H
    go_wp2_with (first | ((with_reducible refine gate_callee (f := 8) rfl ?_); refine goesL_ (some 21) rfl rfl Tryd.func8 (by kernel_rfl) rfl #[.slice A0 l0.length c0] rfl (by (try simp only [List.map_toArray, List.map_cons, List.map_nil]); first | done | rfl | (simp only [List.length_drop, List.length_take]; rfl)) ?_; (with_reducible refine (sidingref18_Long.calls k _ _ l0 false _ ?side1 ?side2 A5.out).mono ?_); (case side1 => repeat (first | exact (Kd.C_below HR0.out HB.out) | (with_reducible refine Kd.C_alloc ?_ _) | (with_reducible refine Kd.C_drewN ?_ _) | (with_reducible refine Kd.C_drew ?_))); (case side2 => exact HC0.out); rintro e w' ⟨rfl, ⟨nd, rfl⟩⟩; refine ⟨_, rfl, ?_⟩) | (go_at_call 9; (with_reducible refine (sidingref19_Long.calls k _ _ l1 false _ ?side1 ?side2 A7.out).mono ?_); (case side1 => repeat (first | exact (Kd.C_below HR1.out (by repeat (first | (with_reducible first | exact HB.out | apply below_alloc | apply pw_below_drewN | apply below_drew1) | exact HB.out))) | (with_reducible refine Kd.C_alloc ?_ _) | (with_reducible refine Kd.C_drewN ?_ _) | (with_reducible refine Kd.C_drew ?_))); (case side2 => exact HC1.out); rintro e w' ⟨rfl, ⟨nd, rfl⟩⟩))
    go_meet
    case rel => exact ⟨_, (decide ((l2.length : Int) > 300)), (by first | rfl | (simp; done) | (simp [*]; done)), H', ⟨by first | omega | exact Nat.le_refl _⟩, ⟨by repeat (first | (with_reducible first | exact HB.out | apply below_alloc | apply pw_below_drewN | apply below_drew1) | exact HB.out)⟩⟩
 case rest =>
  clear HC4
  try clear c1
  try clear c2
  try clear p2
  try clear c3
  try clear c6
  try clear c8
  obtain ⟨kq, x30_3, rfl, HA, HJ3, HB⟩ := hcut
  cases kq with
  | zero => exact absurd HA.out (by simp [sidinglaw19_MarkDoes.j0])
  | succ kj3 =>
   have H := HA.out
   clear HA
   simp only [sidinglaw19_MarkDoes.j0] at H
   by_cases c9 : x30_3 = true
   ·subst c9
    have H1 : (some true) = some r := by rw [if_pos rfl] at H; exact H
    clear H
    have H := H1
    clear H1
    obtain rfl := Option.some.inj H
    go_wp2
    go_ret
    exact ⟨by first | rfl | (simp [errW_none, errW_some] <;> rfl) | (simp [*, errW_none, errW_some] <;> rfl), by repeat (first | (with_reducible first | exact HB.out | apply below_alloc | apply pw_below_drewN | apply below_drew1) | exact HB.out)⟩
   ·replace c9 := Bool.eq_false_iff.mpr c9
    subst c9
    have H1 : ((some (([] : List ByteArray) : List ByteArray)).bind fun y307 => (if y307.length + l1.length < 8796093022208 then ((some (y307 ++ l1 : List ByteArray)).bind fun y310 => ((mark_Write.f kj3 l0).bind fun bt313 => ((sidingref19_Write.f kj3 l0).bind fun bt317 => ((mark_Read.f kj3 y310).bind fun bt321 => ((ref19_Read.f kj3 l1).bind fun bt325 => ((mark_Choose.f kj3 l0 l2).bind fun bt329 => ((sidingref19_Choose.f kj3 l0 l2).bind fun bt333 => ((sidingref13_Same.f kj3 bt313.1 bt317.1).bind fun t337 => (if t337 = true then (if bt313.2 = bt317.2 then ((sidingref18_Same.f kj3 bt321.1 bt325.1).bind fun t338 => (if t338 = true then (if bt321.2 = bt325.2 then ((sidingref13_Same.f kj3 bt329.1 bt333.1).bind fun t339 => (if t339 = true then (if bt329.2 = bt333.2 then ((sidingref13_Same.f kj3 y310 l1).bind fun t340 => (some t340)) else (some false)) else (some false))) else (some false)) else (some false))) else (some false)) else (some false)))))))))) else (none))) = some r := by rw [if_neg (show ¬ (false = true) by decide)] at H; exact H
    clear H
    have H := H1
    clear H1
    obtain ⟨y307, hy307⟩ : ∃ y_ : List ByteArray, y_ = (([] : List ByteArray)) := ⟨_, rfl⟩
    replace H : (if y307.length + l1.length < 8796093022208 then ((some (y307 ++ l1 : List ByteArray)).bind fun y310 => ((mark_Write.f kj3 l0).bind fun bt313 => ((sidingref19_Write.f kj3 l0).bind fun bt317 => ((mark_Read.f kj3 y310).bind fun bt321 => ((ref19_Read.f kj3 l1).bind fun bt325 => ((mark_Choose.f kj3 l0 l2).bind fun bt329 => ((sidingref19_Choose.f kj3 l0 l2).bind fun bt333 => ((sidingref13_Same.f kj3 bt313.1 bt317.1).bind fun t337 => (if t337 = true then (if bt313.2 = bt317.2 then ((sidingref18_Same.f kj3 bt321.1 bt325.1).bind fun t338 => (if t338 = true then (if bt321.2 = bt325.2 then ((sidingref13_Same.f kj3 bt329.1 bt333.1).bind fun t339 => (if t339 = true then (if bt329.2 = bt333.2 then ((sidingref13_Same.f kj3 y310 l1).bind fun t340 => (some t340)) else (some false)) else (some false))) else (some false)) else (some false))) else (some false)) else (some false)))))))))) else (none)) = some r := by first | (rw [hy307]; with_reducible exact H) | (have H2_ := (Option.bind_some _ _).symm.trans H; rw [hy307]; with_reducible exact H2_) | (have H2_ := (Option.bind_some _ _).symm.trans H; with_reducible exact H2_) | with_reducible exact H | (rw [hy307]; exact H) | exact H
    have Ny307 := Aside0.mk hy307
    clear hy307
    by_cases c10 : y307.length + l1.length < 8796093022208
    ·rw [if_pos c10] at H
     have LMc10 := Aside0.mk c10
     clear c10
     obtain ⟨y310, hy310⟩ : ∃ y_ : List ByteArray, y_ = (y307 ++ l1) := ⟨_, rfl⟩
     replace H : ((mark_Write.f kj3 l0).bind fun bt313 => ((sidingref19_Write.f kj3 l0).bind fun bt317 => ((mark_Read.f kj3 y310).bind fun bt321 => ((ref19_Read.f kj3 l1).bind fun bt325 => ((mark_Choose.f kj3 l0 l2).bind fun bt329 => ((sidingref19_Choose.f kj3 l0 l2).bind fun bt333 => ((sidingref13_Same.f kj3 bt313.1 bt317.1).bind fun t337 => (if t337 = true then (if bt313.2 = bt317.2 then ((sidingref18_Same.f kj3 bt321.1 bt325.1).bind fun t338 => (if t338 = true then (if bt321.2 = bt325.2 then ((sidingref13_Same.f kj3 bt329.1 bt333.1).bind fun t339 => (if t339 = true then (if bt329.2 = bt333.2 then ((sidingref13_Same.f kj3 y310 l1).bind fun t340 => (some t340)) else (some false)) else (some false))) else (some false)) else (some false))) else (some false)) else (some false))))))))) = some r := by first | (rw [hy310]; with_reducible exact H) | (have H2_ := (Option.bind_some _ _).symm.trans H; rw [hy310]; with_reducible exact H2_) | (have H2_ := (Option.bind_some _ _).symm.trans H; with_reducible exact H2_) | with_reducible exact H | (rw [hy310]; exact H) | exact H
     have Ny310 := Aside0.mk hy310
     clear hy310
     replace H := Option.bind_eq_some_iff.mp H
     obtain ⟨⟨t313, t314⟩, A110, H⟩ := H
     replace H : ((sidingref19_Write.f kj3 l0).bind fun bt317 => ((mark_Read.f kj3 y310).bind fun bt321 => ((ref19_Read.f kj3 l1).bind fun bt325 => ((mark_Choose.f kj3 l0 l2).bind fun bt329 => ((sidingref19_Choose.f kj3 l0 l2).bind fun bt333 => ((sidingref13_Same.f kj3 t313 bt317.1).bind fun t337 => (if t337 = true then (if t314 = bt317.2 then ((sidingref18_Same.f kj3 bt321.1 bt325.1).bind fun t338 => (if t338 = true then (if bt321.2 = bt325.2 then ((sidingref13_Same.f kj3 bt329.1 bt333.1).bind fun t339 => (if t339 = true then (if bt329.2 = bt333.2 then ((sidingref13_Same.f kj3 y310 l1).bind fun t340 => (some t340)) else (some false)) else (some false))) else (some false)) else (some false))) else (some false)) else (some false)))))))) = some r := H
     have A11 := Aside0.mk A110
     clear A110
     replace H := Option.bind_eq_some_iff.mp H
     obtain ⟨⟨t317, t318⟩, A120, H⟩ := H
     replace H : ((mark_Read.f kj3 y310).bind fun bt321 => ((ref19_Read.f kj3 l1).bind fun bt325 => ((mark_Choose.f kj3 l0 l2).bind fun bt329 => ((sidingref19_Choose.f kj3 l0 l2).bind fun bt333 => ((sidingref13_Same.f kj3 t313 t317).bind fun t337 => (if t337 = true then (if t314 = t318 then ((sidingref18_Same.f kj3 bt321.1 bt325.1).bind fun t338 => (if t338 = true then (if bt321.2 = bt325.2 then ((sidingref13_Same.f kj3 bt329.1 bt333.1).bind fun t339 => (if t339 = true then (if bt329.2 = bt333.2 then ((sidingref13_Same.f kj3 y310 l1).bind fun t340 => (some t340)) else (some false)) else (some false))) else (some false)) else (some false))) else (some false)) else (some false))))))) = some r := H
     have A12 := Aside0.mk A120
     clear A120
     replace H := Option.bind_eq_some_iff.mp H
     obtain ⟨⟨t321, t322⟩, A130, H⟩ := H
     replace H : ((ref19_Read.f kj3 l1).bind fun bt325 => ((mark_Choose.f kj3 l0 l2).bind fun bt329 => ((sidingref19_Choose.f kj3 l0 l2).bind fun bt333 => ((sidingref13_Same.f kj3 t313 t317).bind fun t337 => (if t337 = true then (if t314 = t318 then ((sidingref18_Same.f kj3 t321 bt325.1).bind fun t338 => (if t338 = true then (if t322 = bt325.2 then ((sidingref13_Same.f kj3 bt329.1 bt333.1).bind fun t339 => (if t339 = true then (if bt329.2 = bt333.2 then ((sidingref13_Same.f kj3 y310 l1).bind fun t340 => (some t340)) else (some false)) else (some false))) else (some false)) else (some false))) else (some false)) else (some false)))))) = some r := H
     have A13 := Aside0.mk A130
     clear A130
     replace H := Option.bind_eq_some_iff.mp H
     obtain ⟨⟨t325, t326⟩, A140, H⟩ := H
     replace H : ((mark_Choose.f kj3 l0 l2).bind fun bt329 => ((sidingref19_Choose.f kj3 l0 l2).bind fun bt333 => ((sidingref13_Same.f kj3 t313 t317).bind fun t337 => (if t337 = true then (if t314 = t318 then ((sidingref18_Same.f kj3 t321 t325).bind fun t338 => (if t338 = true then (if t322 = t326 then ((sidingref13_Same.f kj3 bt329.1 bt333.1).bind fun t339 => (if t339 = true then (if bt329.2 = bt333.2 then ((sidingref13_Same.f kj3 y310 l1).bind fun t340 => (some t340)) else (some false)) else (some false))) else (some false)) else (some false))) else (some false)) else (some false))))) = some r := H
     have A14 := Aside0.mk A140
     clear A140
     replace H := Option.bind_eq_some_iff.mp H
     obtain ⟨⟨t329, t332⟩, A150, H⟩ := H
     replace H : ((sidingref19_Choose.f kj3 l0 l2).bind fun bt333 => ((sidingref13_Same.f kj3 t313 t317).bind fun t337 => (if t337 = true then (if t314 = t318 then ((sidingref18_Same.f kj3 t321 t325).bind fun t338 => (if t338 = true then (if t322 = t326 then ((sidingref13_Same.f kj3 t329 bt333.1).bind fun t339 => (if t339 = true then (if t332 = bt333.2 then ((sidingref13_Same.f kj3 y310 l1).bind fun t340 => (some t340)) else (some false)) else (some false))) else (some false)) else (some false))) else (some false)) else (some false)))) = some r := H
     have A15 := Aside0.mk A150
     clear A150
     replace H := Option.bind_eq_some_iff.mp H
     obtain ⟨⟨t333, t334⟩, A160, H⟩ := H
     replace H : ((sidingref13_Same.f kj3 t313 t317).bind fun t337 => (if t337 = true then (if t314 = t318 then ((sidingref18_Same.f kj3 t321 t325).bind fun t338 => (if t338 = true then (if t322 = t326 then ((sidingref13_Same.f kj3 t329 t333).bind fun t339 => (if t339 = true then (if t332 = t334 then ((sidingref13_Same.f kj3 y310 l1).bind fun t340 => (some t340)) else (some false)) else (some false))) else (some false)) else (some false))) else (some false)) else (some false))) = some r := H
     have A16 := Aside0.mk A160
     clear A160
     replace H := Option.bind_eq_some_iff.mp H
     obtain ⟨t337, A170, H⟩ := H
     replace H : (if t337 = true then (if t314 = t318 then ((sidingref18_Same.f kj3 t321 t325).bind fun t338 => (if t338 = true then (if t322 = t326 then ((sidingref13_Same.f kj3 t329 t333).bind fun t339 => (if t339 = true then (if t332 = t334 then ((sidingref13_Same.f kj3 y310 l1).bind fun t340 => (some t340)) else (some false)) else (some false))) else (some false)) else (some false))) else (some false)) else (some false)) = some r := H
     have A17 := Aside0.mk A170
     clear A170
     by_cases c18 : t337 = true
     ·subst c18
      have H1 : (if t314 = t318 then ((sidingref18_Same.f kj3 t321 t325).bind fun t338 => (if t338 = true then (if t322 = t326 then ((sidingref13_Same.f kj3 t329 t333).bind fun t339 => (if t339 = true then (if t332 = t334 then ((sidingref13_Same.f kj3 y310 l1).bind fun t340 => (some t340)) else (some false)) else (some false))) else (some false)) else (some false))) else (some false)) = some r := by rw [if_pos rfl] at H; exact H
      clear H
      have H := H1
      clear H1
      by_cases c19 : t314 = t318
      ·rw [if_pos c19] at H
       have c19b0 : (t314 == t318) = true := beq_iff_eq.mpr c19
       have c19b1 : (t314 != t318) = false := bne_eq_false_iff_eq.mpr c19
       clear c19
       replace H := Option.bind_eq_some_iff.mp H
       obtain ⟨t338, A200, H⟩ := H
       replace H : (if t338 = true then (if t322 = t326 then ((sidingref13_Same.f kj3 t329 t333).bind fun t339 => (if t339 = true then (if t332 = t334 then ((sidingref13_Same.f kj3 y310 l1).bind fun t340 => (some t340)) else (some false)) else (some false))) else (some false)) else (some false)) = some r := H
       have A20 := Aside0.mk A200
       clear A200
       by_cases c21 : t338 = true
       ·subst c21
        have H1 : (if t322 = t326 then ((sidingref13_Same.f kj3 t329 t333).bind fun t339 => (if t339 = true then (if t332 = t334 then ((sidingref13_Same.f kj3 y310 l1).bind fun t340 => (some t340)) else (some false)) else (some false))) else (some false)) = some r := by rw [if_pos rfl] at H; exact H
        clear H
        have H := H1
        clear H1
        by_cases c22 : t322 = t326
        ·rw [if_pos c22] at H
         have c22b0 : (t322 == t326) = true := beq_iff_eq.mpr c22
         have c22b1 : (t322 != t326) = false := bne_eq_false_iff_eq.mpr c22
         clear c22
         replace H := Option.bind_eq_some_iff.mp H
         obtain ⟨t339, A230, H⟩ := H
         replace H : (if t339 = true then (if t332 = t334 then ((sidingref13_Same.f kj3 y310 l1).bind fun t340 => (some t340)) else (some false)) else (some false)) = some r := H
         have A23 := Aside0.mk A230
         (try have sameA23 := (Option.some.inj (A17.out.symm.trans A23.out) : t337 = t339))
         clear A230
         by_cases c24 : t339 = true
         ·subst c24
          have H1 : (if t332 = t334 then ((sidingref13_Same.f kj3 y310 l1).bind fun t340 => (some t340)) else (some false)) = some r := by rw [if_pos rfl] at H; exact H
          clear H
          have H := H1
          clear H1
          by_cases c25 : t332 = t334
          ·rw [if_pos c25] at H
           have c25b0 : (t332 == t334) = true := beq_iff_eq.mpr c25
           have c25b1 : (t332 != t334) = false := bne_eq_false_iff_eq.mpr c25
           clear c25
           replace H := Option.bind_eq_some_iff.mp H
           obtain ⟨t340, A260, H⟩ := H
           replace H : (some t340) = some r := H
           have A26 := Aside0.mk A260
           (try have sameA26 := (Option.some.inj (A23.out.symm.trans A26.out) : t339 = t340))
           clear A260
           obtain rfl := Option.some.inj H
           go_wp2_with (first | ((with_reducible refine gate_dst (N := 31) rfl ?_); (try (refine gate_guard (by rfl) ?_; dsimp only)); refine Kd.R_lit Kd.string _ 9 ?hg (N := 31) ?hd (xs := ([] : List ByteArray)) (inner := []) (ok := fun _ => True) (okp := fun _ => True) ?hr ?hp (fun _ hk => hk) trivial (Below.refl _ _) (Nat.le_refl _) (by simp) ?_; (case hd => rfl); (case hg => rfl); (case hr => first | (go_simp; done) | (go_simp; rfl)); (case hp => exact (Reps.none _ _)); intro v308 w27 ho28 hb hg_ hnew_; clear hg_ hnew_; (first | rw [← Ny307.out] at ho28 | (simp only [Int.reduceToNat] at ho28; rw [← Ny307.out] at ho28)); have n0_ := Aside0.mk (Kd.R_lower ho28 (below_size (by repeat (first | (with_reducible first | exact HB.out | apply below_alloc | apply pw_below_drewN | apply below_drew1) | exact HB.out)))); have n1_ := Aside0.mk (below_step (by repeat (first | (with_reducible first | exact HB.out | apply below_alloc | apply pw_below_drewN | apply below_drew1) | exact HB.out)) hb); clear HB; have HO309 := n0_; have HB := n1_; clear n0_ n1_; clear hb ho28) | ((with_reducible refine gate_builtin (b := .append) (xs := #[.tmp 31, .tmp 32]) rfl ?_); (try (refine gate_guard (by rfl) ?_; dsimp only)); at_builtin; refine Kd.R_append_rows Kd.string (w0 := w) w.heap.size rfl (.tmp 31) (.tmp 32) 23 9 (.string ⟨#[]⟩) 16 rfl Tryd.underlying23 info9 rfl (by decide) (by omega) v308 y307 l1 _ _ _ (fun _ => True) (fun _ => False) rfl rfl ?aO ?aR (fun _ _ h => h) (fun _ h => h.elim) ?aF ?aB ?aS ?aL ?_; (case aR => repeat (first | exact (Kd.C_below HR1.out HB.out) | (with_reducible refine Kd.C_alloc ?_ _) | (with_reducible refine Kd.C_drewN ?_ _) | (with_reducible refine Kd.C_drew ?_))); (case aB => exact (by repeat (first | (with_reducible first | exact HB.out | apply below_alloc | apply pw_below_drewN | apply below_drew1) | exact HB.out))); (case aF => exact (fun _ _ => trivial)); (case aO => exact (by (with_reducible repeat (first | apply Kd.R_alloc | apply Kd.R_drewN | apply Kd.R_drew)); exact HO309.out)); (case aS => exact (below_size (by repeat (first | (with_reducible first | exact HB.out | apply below_alloc | apply pw_below_drewN | apply below_drew1) | exact HB.out)))); (case aL => have := LMc10.out; omega); intro v311 w29 ho hb hg hat; rw [← Ny310.out] at ho; have n0_ := Aside0.mk (hb); have n1_ := Aside0.mk (ho); clear HB; clear HO309; have HB := n0_; have HO312 := n1_; clear n0_ n1_; clear ho hb hg hat) | ((with_reducible refine gate_callee (f := 10) rfl ?_); refine goesL_ (some 36) rfl rfl Tryd.func10 (by kernel_rfl) rfl #[.slice A0 l0.length c0] rfl (by (try simp only [List.map_toArray, List.map_cons, List.map_nil]); first | done | rfl | (simp only [List.length_drop, List.length_take]; rfl)) ?_; (with_reducible refine (mark_Write.calls kj3 _ _ l0 t313 t314 _ ?side1 ?side2 A11.out).mono ?_); (case side1 => repeat (first | exact (Kd.C_below HR0.out HB.out) | (with_reducible refine Kd.C_alloc ?_ _) | (with_reducible refine Kd.C_drewN ?_ _) | (with_reducible refine Kd.C_drew ?_))); (case side2 => exact HC0.out); rintro e w30 ⟨v315, rfl, ho0, hb⟩; refine ⟨_, rfl, ?_⟩; have n0_ := Aside0.mk (Kd.R_elder' (by (with_reducible repeat (first | apply Kd.R_alloc | apply Kd.R_drewN | apply Kd.R_drew)); exact HO312.out) (Kd.R_base ho0) hb); have n1_ := Aside0.mk (Kd.R_lower (Kd.R_new' ho0 (Kd.R_lt (by (with_reducible repeat (first | apply Kd.R_alloc | apply Kd.R_drewN | apply Kd.R_drew)); exact HO312.out))) (below_size (by repeat (first | (with_reducible first | exact HB.out | apply below_alloc | apply pw_below_drewN | apply below_drew1) | exact HB.out)))); have n2_ := Aside0.mk (below_step (by repeat (first | (with_reducible first | exact HB.out | apply below_alloc | apply pw_below_drewN | apply below_drew1) | exact HB.out)) hb); clear HO312; clear HB; have HO312 := n0_; have HO316 := n1_; have HB := n2_; clear n0_ n1_ n2_; (try clear hb); (try clear hb2); (try clear hk); (try clear hi); (try clear ho0)) | ((with_reducible refine gate_callee (f := 11) rfl ?_); refine goesL_ (some 41) rfl rfl Tryd.func11 (by kernel_rfl) rfl #[.slice A0 l0.length c0] rfl (by (try simp only [List.map_toArray, List.map_cons, List.map_nil]); first | done | rfl | (simp only [List.length_drop, List.length_take]; rfl)) ?_; (with_reducible refine (sidingref19_Write.calls kj3 _ _ l0 t317 t318 _ ?side1 ?side2 A12.out).mono ?_); (case side1 => repeat (first | exact (Kd.C_below HR0.out HB.out) | (with_reducible refine Kd.C_alloc ?_ _) | (with_reducible refine Kd.C_drewN ?_ _) | (with_reducible refine Kd.C_drew ?_))); (case side2 => exact HC0.out); rintro e w31 ⟨v319, rfl, ho0, hb⟩; refine ⟨_, rfl, ?_⟩; have n0_ := Aside0.mk (Kd.R_elder' (by (with_reducible repeat (first | apply Kd.R_alloc | apply Kd.R_drewN | apply Kd.R_drew)); exact HO312.out) (Kd.R_base ho0) hb); have n1_ := Aside0.mk (Kd.R_elder' (by (with_reducible repeat (first | apply Kd.R_alloc | apply Kd.R_drewN | apply Kd.R_drew)); exact HO316.out) (Kd.R_base ho0) hb); have n2_ := Aside0.mk (Kd.R_lower (Kd.R_new' (Kd.R_new' ho0 (Kd.R_lt (by (with_reducible repeat (first | apply Kd.R_alloc | apply Kd.R_drewN | apply Kd.R_drew)); exact HO312.out))) (Kd.R_lt (by (with_reducible repeat (first | apply Kd.R_alloc | apply Kd.R_drewN | apply Kd.R_drew)); exact HO316.out))) (below_size (by repeat (first | (with_reducible first | exact HB.out | apply below_alloc | apply pw_below_drewN | apply below_drew1) | exact HB.out)))); have n3_ := Aside0.mk (below_step (by repeat (first | (with_reducible first | exact HB.out | apply below_alloc | apply pw_below_drewN | apply below_drew1) | exact HB.out)) hb); clear HO312; clear HO316; clear HB; have HO312 := n0_; have HO316 := n1_; have HO320 := n2_; have HB := n3_; clear n0_ n1_ n2_ n3_; (try clear hb); (try clear hb2); (try clear hk); (try clear hi); (try clear ho0); obtain ⟨Ao32, co32, eo32⟩ := Kd.R_slice HO312.out; subst eo32) | ((with_reducible refine gate_callee (f := 12) rfl ?_); refine goesL_ (some 46) rfl rfl Tryd.func12 (by kernel_rfl) rfl #[.slice Ao32 y310.length co32] rfl (by (try simp only [List.map_toArray, List.map_cons, List.map_nil]); first | done | rfl | (simp only [List.length_drop, List.length_take]; rfl)) ?_; (with_reducible refine (mark_Read.calls kj3 _ _ y310 t321 t322 _ ?side1 ?side2 A13.out).mono ?_); (case side1 => repeat (first | exact (Kd.R_reads' HO312.out).2.2 | (with_reducible refine Kd.C_alloc ?_ _) | (with_reducible refine Kd.C_drewN ?_ _) | (with_reducible refine Kd.C_drew ?_))); (case side2 => exact (Kd.R_reads' HO312.out).2.1); rintro e w33 ⟨v323, rfl, ho0, hb⟩; refine ⟨_, rfl, ?_⟩; have n0_ := Aside0.mk (Kd.R_below (by (with_reducible repeat (first | apply Kd.R_alloc | apply Kd.R_drewN | apply Kd.R_drew)); exact HO312.out) hb); have n1_ := Aside0.mk (Kd.R_below (by (with_reducible repeat (first | apply Kd.R_alloc | apply Kd.R_drewN | apply Kd.R_drew)); exact HO316.out) hb); have n2_ := Aside0.mk (Kd.R_below (by (with_reducible repeat (first | apply Kd.R_alloc | apply Kd.R_drewN | apply Kd.R_drew)); exact HO320.out) hb); have n3_ := Aside0.mk (Kd.S_lower (Kd.S_new' (Kd.S_new' (Kd.S_new' ho0 (Kd.R_lt (by (with_reducible repeat (first | apply Kd.R_alloc | apply Kd.R_drewN | apply Kd.R_drew)); exact HO312.out))) (Kd.R_lt (by (with_reducible repeat (first | apply Kd.R_alloc | apply Kd.R_drewN | apply Kd.R_drew)); exact HO316.out))) (Kd.R_lt (by (with_reducible repeat (first | apply Kd.R_alloc | apply Kd.R_drewN | apply Kd.R_drew)); exact HO320.out))) (below_size (by repeat (first | (with_reducible first | exact HB.out | apply below_alloc | apply pw_below_drewN | apply below_drew1) | exact HB.out)))); have n4_ := Aside0.mk (below_step (by repeat (first | (with_reducible first | exact HB.out | apply below_alloc | apply pw_below_drewN | apply below_drew1) | exact HB.out)) hb); clear HO312; clear HO316; clear HO320; clear HB; have HO312 := n0_; have HO316 := n1_; have HO320 := n2_; have HO324 := n3_; have HB := n4_; clear n0_ n1_ n2_ n3_ n4_; (try clear hb); (try clear hb2); (try clear hk); (try clear hi); (try clear ho0)) | ((with_reducible refine gate_callee (f := 13) rfl ?_); refine goesL_ (some 51) rfl rfl Tryd.func13 (by kernel_rfl) rfl #[.slice A1 l1.length c1] rfl (by (try simp only [List.map_toArray, List.map_cons, List.map_nil]); first | done | rfl | (simp only [List.length_drop, List.length_take]; rfl)) ?_; (with_reducible refine (ref19_Read.calls kj3 _ _ l1 t325 t326 _ ?side1 ?side2 A14.out).mono ?_); (case side1 => repeat (first | exact (Kd.C_below HR1.out HB.out) | (with_reducible refine Kd.C_alloc ?_ _) | (with_reducible refine Kd.C_drewN ?_ _) | (with_reducible refine Kd.C_drew ?_))); (case side2 => exact HC1.out); rintro e w34 ⟨v327, rfl, ho0, hb⟩; refine ⟨_, rfl, ?_⟩; have n0_ := Aside0.mk (Kd.R_below (by (with_reducible repeat (first | apply Kd.R_alloc | apply Kd.R_drewN | apply Kd.R_drew)); exact HO312.out) hb); have n1_ := Aside0.mk (Kd.R_below (by (with_reducible repeat (first | apply Kd.R_alloc | apply Kd.R_drewN | apply Kd.R_drew)); exact HO316.out) hb); have n2_ := Aside0.mk (Kd.R_below (by (with_reducible repeat (first | apply Kd.R_alloc | apply Kd.R_drewN | apply Kd.R_drew)); exact HO320.out) hb); have n3_ := Aside0.mk (Kd.S_elder' (by (with_reducible repeat (first | apply Kd.S_alloc | apply Kd.S_drewN | apply Kd.S_drew)); exact HO324.out) (Kd.S_base ho0) hb); have n4_ := Aside0.mk (Kd.S_lower (Kd.S_new' (Kd.S_new' (Kd.S_new' (Kd.S_new' ho0 (Kd.R_lt (by (with_reducible repeat (first | apply Kd.R_alloc | apply Kd.R_drewN | apply Kd.R_drew)); exact HO312.out))) (Kd.R_lt (by (with_reducible repeat (first | apply Kd.R_alloc | apply Kd.R_drewN | apply Kd.R_drew)); exact HO316.out))) (Kd.R_lt (by (with_reducible repeat (first | apply Kd.R_alloc | apply Kd.R_drewN | apply Kd.R_drew)); exact HO320.out))) (Kd.S_lt (by (with_reducible repeat (first | apply Kd.S_alloc | apply Kd.S_drewN | apply Kd.S_drew)); exact HO324.out))) (below_size (by repeat (first | (with_reducible first | exact HB.out | apply below_alloc | apply pw_below_drewN | apply below_drew1) | exact HB.out)))); have n5_ := Aside0.mk (below_step (by repeat (first | (with_reducible first | exact HB.out | apply below_alloc | apply pw_below_drewN | apply below_drew1) | exact HB.out)) hb); clear HO312; clear HO316; clear HO320; clear HO324; clear HB; have HO312 := n0_; have HO316 := n1_; have HO320 := n2_; have HO324 := n3_; have HO328 := n4_; have HB := n5_; clear n0_ n1_ n2_ n3_ n4_ n5_; (try clear hb); (try clear hb2); (try clear hk); (try clear hi); (try clear ho0)) | ((with_reducible refine gate_callee (f := 14) rfl ?_); refine goesL_ (some 57) rfl rfl Tryd.func14 (by kernel_rfl) rfl #[.slice A0 l0.length c0, .slice A2 l2.length c2] rfl (by (try simp only [List.map_toArray, List.map_cons, List.map_nil]); first | done | rfl | (simp only [List.length_drop, List.length_take]; rfl)) ?_; (with_reducible refine (mark_Choose.calls kj3 (fun k_ => k_ < w.heap.size) _ _ l0 (fun k_ => k_ < w.heap.size) _ _ l2 t329 t332 _ ?side1 ?side2 A15.out).mono ?_); (case side1 => exact Kd.V_mk HC0.out (Kd.F_below (Kd.C_F k43_heap HR0.out) (by repeat (first | (with_reducible first | exact HB.out | apply below_alloc | apply pw_below_drewN | apply below_drew1) | exact HB.out)))); (case side2 => exact Kd.V_mk HC2.out (Kd.F_below (Kd.C_F (Kd.heap_int .u8) HR2.out) (by repeat (first | (with_reducible first | exact HB.out | apply below_alloc | apply pw_below_drewN | apply below_drew1) | exact HB.out)))); rintro e w35 ⟨v330, rfl, ho0, hb⟩; refine ⟨_, rfl, ?_⟩; have n0_ := Aside0.mk (Kd.R_elder' (by (with_reducible repeat (first | apply Kd.R_alloc | apply Kd.R_drewN | apply Kd.R_drew)); exact HO312.out) (Kd.R_base ho0) hb); have n1_ := Aside0.mk (Kd.R_elder' (by (with_reducible repeat (first | apply Kd.R_alloc | apply Kd.R_drewN | apply Kd.R_drew)); exact HO316.out) (Kd.R_base ho0) hb); have n2_ := Aside0.mk (Kd.R_elder' (by (with_reducible repeat (first | apply Kd.R_alloc | apply Kd.R_drewN | apply Kd.R_drew)); exact HO320.out) (Kd.R_base ho0) hb); have n3_ := Aside0.mk (Kd.S_elder' (by (with_reducible repeat (first | apply Kd.S_alloc | apply Kd.S_drewN | apply Kd.S_drew)); exact HO324.out) (Kd.R_base ho0) hb); have n4_ := Aside0.mk (Kd.S_elder' (by (with_reducible repeat (first | apply Kd.S_alloc | apply Kd.S_drewN | apply Kd.S_drew)); exact HO328.out) (Kd.R_base ho0) hb); have n5_ := Aside0.mk (Kd.R_lower (Kd.R_new' (Kd.R_new' (Kd.R_new' (Kd.R_mono (ok' := fun k_ => True) ho0 (fun _ hk_ => trivial)) (Kd.R_lt (by (with_reducible repeat (first | apply Kd.R_alloc | apply Kd.R_drewN | apply Kd.R_drew)); exact HO312.out))) (Kd.R_lt (by (with_reducible repeat (first | apply Kd.R_alloc | apply Kd.R_drewN | apply Kd.R_drew)); exact HO316.out))) (Kd.R_lt (by (with_reducible repeat (first | apply Kd.R_alloc | apply Kd.R_drewN | apply Kd.R_drew)); exact HO320.out))) (below_size (by repeat (first | (with_reducible first | exact HB.out | apply below_alloc | apply pw_below_drewN | apply below_drew1) | exact HB.out)))); have n6_ := Aside0.mk (below_step (by repeat (first | (with_reducible first | exact HB.out | apply below_alloc | apply pw_below_drewN | apply below_drew1) | exact HB.out)) hb); clear HO312; clear HO316; clear HO320; clear HO324; clear HO328; clear HB; have HO312 := n0_; have HO316 := n1_; have HO320 := n2_; have HO324 := n3_; have HO328 := n4_; have HO331 := n5_; have HB := n6_; clear n0_ n1_ n2_ n3_ n4_ n5_ n6_; (try clear hb); (try clear hb2); (try clear hk); (try clear hi); (try clear ho0)) | ((with_reducible refine gate_callee (f := 15) rfl ?_); refine goesL_ (some 63) rfl rfl Tryd.func15 (by kernel_rfl) rfl #[.slice A0 l0.length c0, .slice A2 l2.length c2] rfl (by (try simp only [List.map_toArray, List.map_cons, List.map_nil]); first | done | rfl | (simp only [List.length_drop, List.length_take]; rfl)) ?_; (with_reducible refine (sidingref19_Choose.calls kj3 _ _ l0 _ _ l2 t333 t334 _ ?side1 ?side2 ?side3 ?side4 A16.out).mono ?_); (case side1 => repeat (first | exact (Kd.C_below HR0.out HB.out) | (with_reducible refine Kd.C_alloc ?_ _) | (with_reducible refine Kd.C_drewN ?_ _) | (with_reducible refine Kd.C_drew ?_))); (case side2 => exact HC0.out); (case side3 => repeat (first | exact (Kd.C_below HR2.out HB.out) | (with_reducible refine Kd.C_alloc ?_ _) | (with_reducible refine Kd.C_drewN ?_ _) | (with_reducible refine Kd.C_drew ?_))); (case side4 => exact HC2.out); rintro e w36 ⟨v335, rfl, ho0, hb⟩; refine ⟨_, rfl, ?_⟩; have n0_ := Aside0.mk (Kd.R_elder' (by (with_reducible repeat (first | apply Kd.R_alloc | apply Kd.R_drewN | apply Kd.R_drew)); exact HO312.out) (Kd.R_base ho0) hb); have n1_ := Aside0.mk (Kd.R_elder' (by (with_reducible repeat (first | apply Kd.R_alloc | apply Kd.R_drewN | apply Kd.R_drew)); exact HO316.out) (Kd.R_base ho0) hb); have n2_ := Aside0.mk (Kd.R_elder' (by (with_reducible repeat (first | apply Kd.R_alloc | apply Kd.R_drewN | apply Kd.R_drew)); exact HO320.out) (Kd.R_base ho0) hb); have n3_ := Aside0.mk (Kd.S_elder' (by (with_reducible repeat (first | apply Kd.S_alloc | apply Kd.S_drewN | apply Kd.S_drew)); exact HO324.out) (Kd.R_base ho0) hb); have n4_ := Aside0.mk (Kd.S_elder' (by (with_reducible repeat (first | apply Kd.S_alloc | apply Kd.S_drewN | apply Kd.S_drew)); exact HO328.out) (Kd.R_base ho0) hb); have n5_ := Aside0.mk (Kd.R_elder' (by (with_reducible repeat (first | apply Kd.R_alloc | apply Kd.R_drewN | apply Kd.R_drew)); exact HO331.out) (Kd.R_base ho0) hb); have n6_ := Aside0.mk (Kd.R_lower (Kd.R_new' (Kd.R_new' (Kd.R_new' (Kd.R_new' ho0 (Kd.R_lt (by (with_reducible repeat (first | apply Kd.R_alloc | apply Kd.R_drewN | apply Kd.R_drew)); exact HO312.out))) (Kd.R_lt (by (with_reducible repeat (first | apply Kd.R_alloc | apply Kd.R_drewN | apply Kd.R_drew)); exact HO316.out))) (Kd.R_lt (by (with_reducible repeat (first | apply Kd.R_alloc | apply Kd.R_drewN | apply Kd.R_drew)); exact HO320.out))) (Kd.R_lt (by (with_reducible repeat (first | apply Kd.R_alloc | apply Kd.R_drewN | apply Kd.R_drew)); exact HO331.out))) (below_size (by repeat (first | (with_reducible first | exact HB.out | apply below_alloc | apply pw_below_drewN | apply below_drew1) | exact HB.out)))); have n7_ := Aside0.mk (below_step (by repeat (first | (with_reducible first | exact HB.out | apply below_alloc | apply pw_below_drewN | apply below_drew1) | exact HB.out)) hb); clear HO312; clear HO316; clear HO320; clear HO324; clear HO328; clear HO331; clear HB; have HO312 := n0_; have HO316 := n1_; have HO320 := n2_; have HO324 := n3_; have HO328 := n4_; have HO331 := n5_; have HO336 := n6_; have HB := n7_; clear n0_ n1_ n2_ n3_ n4_ n5_ n6_ n7_; (try clear hb); (try clear hb2); (try clear hk); (try clear hi); (try clear ho0); obtain ⟨Ao37, co37, eo37⟩ := Kd.R_slice HO316.out; subst eo37; obtain ⟨Ao38, co38, eo38⟩ := Kd.R_slice HO320.out; subst eo38) | ((with_reducible refine gate_callee (f := 16) rfl ?_); refine goesL_ (some 68) rfl rfl Tryd.func16 (by kernel_rfl) rfl #[.slice Ao37 t313.length co37, .slice Ao38 t317.length co38] rfl (by (try simp only [List.map_toArray, List.map_cons, List.map_nil]); first | done | rfl | (simp only [List.length_drop, List.length_take]; rfl)) ?_; (with_reducible refine (sidingref13_Same.calls kj3 _ _ t313 _ _ t317 true _ ?side1 ?side2 ?side3 ?side4 A17.out).mono ?_); (case side1 => repeat (first | exact (Kd.R_reads' HO316.out).2.2 | (with_reducible refine Kd.C_alloc ?_ _) | (with_reducible refine Kd.C_drewN ?_ _) | (with_reducible refine Kd.C_drew ?_))); (case side2 => exact (Kd.R_reads' HO316.out).2.1); (case side3 => repeat (first | exact (Kd.R_reads' HO320.out).2.2 | (with_reducible refine Kd.C_alloc ?_ _) | (with_reducible refine Kd.C_drewN ?_ _) | (with_reducible refine Kd.C_drew ?_))); (case side4 => exact (Kd.R_reads' HO320.out).2.1); rintro e w' ⟨rfl, ⟨nd, rfl⟩⟩; refine ⟨_, rfl, ?_⟩; obtain ⟨Ao39, co39, eo39⟩ := Kd.S_slice HO324.out; subst eo39; obtain ⟨Ao40, co40, eo40⟩ := Kd.S_slice HO328.out; subst eo40) | (go_at_call 17; (with_reducible refine (sidingref18_Same.calls kj3 _ _ t321 _ _ t325 true _ ?side1 ?side2 ?side3 ?side4 A20.out).mono ?_); (case side1 => repeat (first | exact (Kd.S_reads' HO324.out).2.2 | (with_reducible refine Kd.C_alloc ?_ _) | (with_reducible refine Kd.C_drewN ?_ _) | (with_reducible refine Kd.C_drew ?_))); (case side2 => exact (Kd.S_reads' HO324.out).2.1); (case side3 => repeat (first | exact (Kd.S_reads' HO328.out).2.2 | (with_reducible refine Kd.C_alloc ?_ _) | (with_reducible refine Kd.C_drewN ?_ _) | (with_reducible refine Kd.C_drew ?_))); (case side4 => exact (Kd.S_reads' HO328.out).2.1); rintro e w41 ⟨rfl, hb⟩; have n0_ := Aside0.mk (Kd.R_below (by (with_reducible repeat (first | apply Kd.R_alloc | apply Kd.R_drewN | apply Kd.R_drew)); exact HO312.out) hb); have n1_ := Aside0.mk (Kd.R_below (by (with_reducible repeat (first | apply Kd.R_alloc | apply Kd.R_drewN | apply Kd.R_drew)); exact HO316.out) hb); have n2_ := Aside0.mk (Kd.R_below (by (with_reducible repeat (first | apply Kd.R_alloc | apply Kd.R_drewN | apply Kd.R_drew)); exact HO320.out) hb); have n3_ := Aside0.mk (Kd.S_below (by (with_reducible repeat (first | apply Kd.S_alloc | apply Kd.S_drewN | apply Kd.S_drew)); exact HO324.out) hb); have n4_ := Aside0.mk (Kd.S_below (by (with_reducible repeat (first | apply Kd.S_alloc | apply Kd.S_drewN | apply Kd.S_drew)); exact HO328.out) hb); have n5_ := Aside0.mk (Kd.R_below (by (with_reducible repeat (first | apply Kd.R_alloc | apply Kd.R_drewN | apply Kd.R_drew)); exact HO331.out) hb); have n6_ := Aside0.mk (Kd.R_below (by (with_reducible repeat (first | apply Kd.R_alloc | apply Kd.R_drewN | apply Kd.R_drew)); exact HO336.out) hb); have n7_ := Aside0.mk (below_step (by repeat (first | (with_reducible first | exact HB.out | apply below_alloc | apply pw_below_drewN | apply below_drew1) | exact HB.out)) hb); clear HO312; clear HO316; clear HO320; clear HO324; clear HO328; clear HO331; clear HO336; clear HB; have HO312 := n0_; have HO316 := n1_; have HO320 := n2_; have HO324 := n3_; have HO328 := n4_; have HO331 := n5_; have HO336 := n6_; have HB := n7_; clear n0_ n1_ n2_ n3_ n4_ n5_ n6_ n7_; (try clear hb); (try clear hb2); (try clear hk); (try clear hi); obtain ⟨Ao42, co42, eo42⟩ := Kd.R_slice HO331.out; subst eo42; obtain ⟨Ao43, co43, eo43⟩ := Kd.R_slice HO336.out; subst eo43) | (go_at_call 16; (with_reducible refine (sidingref13_Same.calls kj3 _ _ t329 _ _ t333 true _ ?side1 ?side2 ?side3 ?side4 A23.out).mono ?_); (case side1 => repeat (first | exact (Kd.R_reads' HO331.out).2.2 | (with_reducible refine Kd.C_alloc ?_ _) | (with_reducible refine Kd.C_drewN ?_ _) | (with_reducible refine Kd.C_drew ?_))); (case side2 => exact (Kd.R_reads' HO331.out).2.1); (case side3 => repeat (first | exact (Kd.R_reads' HO336.out).2.2 | (with_reducible refine Kd.C_alloc ?_ _) | (with_reducible refine Kd.C_drewN ?_ _) | (with_reducible refine Kd.C_drew ?_))); (case side4 => exact (Kd.R_reads' HO336.out).2.1); rintro e w' ⟨rfl, ⟨nd, rfl⟩⟩) | (go_at_call 16; (with_reducible refine (sidingref13_Same.calls kj3 _ _ y310 _ _ l1 t340 _ ?side1 ?side2 ?side3 ?side4 A26.out).mono ?_); (case side1 => repeat (first | exact (Kd.R_reads' HO312.out).2.2 | (with_reducible refine Kd.C_alloc ?_ _) | (with_reducible refine Kd.C_drewN ?_ _) | (with_reducible refine Kd.C_drew ?_))); (case side2 => exact (Kd.R_reads' HO312.out).2.1); (case side3 => repeat (first | exact (Kd.C_below HR1.out (by repeat (first | (with_reducible first | exact HB.out | apply below_alloc | apply pw_below_drewN | apply below_drew1) | exact HB.out))) | (with_reducible refine Kd.C_alloc ?_ _) | (with_reducible refine Kd.C_drewN ?_ _) | (with_reducible refine Kd.C_drew ?_))); (case side4 => exact HC1.out); rintro e w' ⟨rfl, ⟨nd, rfl⟩⟩))
           go_ret
           (try rw [sameA23])
           (try rw [sameA26])
           exact ⟨by first | rfl | (simp [errW_none, errW_some] <;> rfl) | (simp [*, errW_none, errW_some] <;> rfl), by repeat (first | (with_reducible first | exact HB.out | apply below_alloc | apply pw_below_drewN | apply below_drew1) | exact HB.out)⟩
          ·rw [if_neg c25] at H
           have c25b0 : (t332 == t334) = false := beq_eq_false_iff_ne.mpr c25
           have c25b1 : (t332 != t334) = true := bne_iff_ne.mpr c25
           exact absurd ((Option.some.inj H).trans hr_.out) (by decide)
         ·replace c24 := Bool.eq_false_iff.mpr c24
          subst c24
          have H1 : (some false) = some r := by rw [if_neg (show ¬ (false = true) by decide)] at H; exact H
          clear H
          have H := H1
          clear H1
          exact absurd ((Option.some.inj H).trans hr_.out) (by decide)
        ·rw [if_neg c22] at H
         have c22b0 : (t322 == t326) = false := beq_eq_false_iff_ne.mpr c22
         have c22b1 : (t322 != t326) = true := bne_iff_ne.mpr c22
         exact absurd ((Option.some.inj H).trans hr_.out) (by decide)
       ·replace c21 := Bool.eq_false_iff.mpr c21
        subst c21
        have H1 : (some false) = some r := by rw [if_neg (show ¬ (false = true) by decide)] at H; exact H
        clear H
        have H := H1
        clear H1
        exact absurd ((Option.some.inj H).trans hr_.out) (by decide)
      ·rw [if_neg c19] at H
       have c19b0 : (t314 == t318) = false := beq_eq_false_iff_ne.mpr c19
       have c19b1 : (t314 != t318) = true := bne_iff_ne.mpr c19
       exact absurd ((Option.some.inj H).trans hr_.out) (by decide)
     ·replace c18 := Bool.eq_false_iff.mpr c18
      subst c18
      have H1 : (some false) = some r := by rw [if_neg (show ¬ (false = true) by decide)] at H; exact H
      clear H
      have H := H1
      clear H1
      exact absurd ((Option.some.inj H).trans hr_.out) (by decide)
    ·rw [if_neg c10] at H
     exact absurd H (by simp)
def sidinglaw19_MarkDoes.Pure : Prop := ∀ (l0 : List (S43)) (l1 : List ByteArray) (l2 : List Int), (l0.length * 80 ≤ 140737488351232 ∧ ∀ x0_ ∈ l0, ((Lit.int .u8 x0_.f0).wf = true) ∧ (x0_.f1.length * 16 ≤ 140737488351232 ∧ ∀ x1_ ∈ x0_.f1, x1_.size ≤ 140737488351232) ∧ (x0_.f2.length * 16 ≤ 140737488351232 ∧ ∀ x1_ ∈ x0_.f2, x1_.size ≤ 140737488351232) ∧ (x0_.f3.length * 16 ≤ 140737488351232 ∧ ∀ x1_ ∈ x0_.f3, x1_.size ≤ 140737488351232)) → (l1.length * 16 ≤ 140737488351232 ∧ ∀ x0_ ∈ l1, x0_.size ≤ 140737488351232) → (l2.length * 1 ≤ 140737488351232 ∧ ∀ x0_ ∈ l2, (Lit.int .u8 x0_).wf = true) → ∃ k, sidinglaw19_MarkDoes.f k l0 l1 l2 = some true
theorem sidinglaw19_MarkDoes.walk (P : sidinglaw19_MarkDoes.Pure) (A0 : Option Addr) (c0 : Nat) (l0 : List (S43)) (A1 : Option Addr) (c1 : Nat) (l1 : List ByteArray) (A2 : Option Addr) (c2 : Nat) (l2 : List Int) (w : World) (hr0 : Kd.C k43 w A0 l0.length l0) (hc0 : l0.length ≤ c0) (hr1 : Kd.C Kd.string w A1 l1.length l1) (hc1 : l1.length ≤ c1) (hr2 : Kd.C (Kd.int .u8) w A2 l2.length l2) (hc2 : l2.length ≤ c2) (hw0 : l0.length * 80 ≤ 140737488351232 ∧ ∀ x0_ ∈ l0, ((Lit.int .u8 x0_.f0).wf = true) ∧ (x0_.f1.length * 16 ≤ 140737488351232 ∧ ∀ x1_ ∈ x0_.f1, x1_.size ≤ 140737488351232) ∧ (x0_.f2.length * 16 ≤ 140737488351232 ∧ ∀ x1_ ∈ x0_.f2, x1_.size ≤ 140737488351232) ∧ (x0_.f3.length * 16 ≤ 140737488351232 ∧ ∀ x1_ ∈ x0_.f3, x1_.size ≤ 140737488351232)) (hw1 : l1.length * 16 ≤ 140737488351232 ∧ ∀ x0_ ∈ l1, x0_.size ≤ 140737488351232) (hw2 : l2.length * 1 ≤ 140737488351232 ∧ ∀ x0_ ∈ l2, (Lit.int .u8 x0_).wf = true) :
  Calls Tryd.prog 3 #[.slice A0 l0.length c0, .slice A1 l1.length c1, .slice A2 l2.length c2] w fun e w' => e = .returned (.bool true) ∧ Below w.heap.size w w' := by
 obtain ⟨k, h⟩ := P l0 l1 l2 hw0 hw1 hw2
 refine (sidinglaw19_MarkDoes.calls k A0 c0 l0 A1 c1 l1 A2 c2 l2 true w hr0 hc0 hr1 hc1 hr2 hc2 h ⟨rfl⟩).mono ?_
 rintro e w' ⟨rfl, hd⟩
 exact ⟨rfl, hd⟩
end Go.Proofs.YtpklfaglenkdaaaDoor.Pr
end
section
namespace Go.Proofs.YtpklfaglenkdaaaDoor.Pr
open Go.RowKit Go.Proofs.YtpklfaglenkdaaaDoorW.PrintWords Go.Proofs.YtpklfaglenkdaaaDoorW.PrintLast Go.Proofs.YtpklfaglenkdaaaDoorW.PrintMore
theorem markN_eq (s : ByteArray) : markN s = if s = mk0 then 0 else if s = mk1 then 1 else if s = mk2 then 2 else if s = mk3 then 3 else -1 := by
 unfold markN Go.Lib.idxOfS
 simp only [Go.Lib.idxFromS]
 simp only [eq_comm (a := s)]
 rfl
theorem rmark_val (s : ByteArray) : sidingref19_Mark.f s = some (markN s) := by
 have e0 : mk0.toList = [60, 60, 60, 60, 60, 60, 60] := by decide +kernel
 have e1 : mk1.toList = [124, 124, 124, 124, 124, 124, 124] := by decide +kernel
 have e2 : mk2.toList = [61, 61, 61, 61, 61, 61, 61] := by decide +kernel
 have e3 : mk3.toList = [62, 62, 62, 62, 62, 62, 62] := by decide +kernel
 rw [markN_eq]
 unfold sidingref19_Mark.f
 rw [← e0, ← e1, ← e2, ← e3]
 simp only [toList_inj]
 split
 ·rfl
 ·split
  ·rfl
  ·split
   ·rfl
   ·split <;> rfl
theorem bare_cons (s : ByteArray) (h : 0 < s.size) : bareB s = if bt s 0 = 92 then bareB (s.extract 1 s.size) else s := by
 unfold bareB
 rw [Go.Lib.extract_to_end]
 obtain ⟨b, r, hl⟩ : ∃ b r, s.data.toList = b :: r := by
  cases h2 : s.data.toList with
  | nil =>
   have := congrArg List.length h2
   rw [Array.length_toList] at this
   have h3 : s.size = 0 := this
   omega
  | cons b r => exact ⟨b, r, rfl⟩
 have hb : bt s 0 = (b.toNat : Int) := by
  unfold bt
  rw [dif_pos (by simpa using h)]
  have : s.data.toList[0]? = some b := by rw [hl]; rfl
  rw [Array.getElem?_toList] at this
  obtain ⟨_, h4⟩ := Array.getElem?_eq_some_iff.1 this
  show ((s.data[0]).toNat : Int) = _
  rw [h4]
 rw [hb, hl]
 unfold Go.Lib.trimLeftB
 rw [List.dropWhile_cons, List.drop_one, List.tail_cons]
 have hiff : ((b.toNat : Int) = 92) ↔ (b == (92 : UInt8)) = true := by
  rw [beq_iff_eq]
  constructor
  ·intro e
   have e2 : b.toNat = (92 : UInt8).toNat := by
    have : (92 : UInt8).toNat = 92 := rfl
    omega
   exact UInt8.toNat_inj.1 e2
  ·rintro rfl
   rfl
 by_cases c : (b == (92 : UInt8)) = true
 ·rw [if_pos c, if_pos (hiff.2 c)]
 ·rw [if_neg c, if_neg (fun e => c (hiff.1 e))]
  rw [← hl]
theorem bare_nil (s : ByteArray) (h : s.size = 0) : bareB s = s := by
 have hl : s.data.toList = [] := List.eq_nil_of_length_eq_zero (by rw [Array.length_toList]; exact h)
 unfold bareB
 rw [hl]
 apply ByteArray.ext
 apply Array.toList_inj.1
 rw [hl]
 rfl
theorem bare_loop : ∀ (n : Nat) (s : ByteArray), s.size = n → Ev (fun k => sidingref19_bare.l0 k s) (bareB s) := by
 intro n
 induction n with
 | zero =>
  intro s h
  refine Ev.step (fun k => by rw [sidingref19_bare.l0]) (Ev.neg (by omega) (Ev.rt (bare_nil s h).symm))
 | succ n ih =>
  intro s h
  refine Ev.step (fun k => by rw [sidingref19_bare.l0]) (Ev.pos (by omega) (Ev.pos (by omega) ?_))
  rw [bare_cons s (by omega)]
  by_cases c : bt s 0 = 92
  ·rw [if_pos c]
   exact Ev.pos c (Ev.pos (by omega) (ih _ (by rw [ByteArray.size_extract]; omega)))
  ·rw [if_neg c]
   exact Ev.neg c (Ev.now _)
theorem bare_ev (s : ByteArray) : Ev (fun k => sidingref19_bare.f k s) (bareB s) := bare_loop s.size s rfl
theorem written_ev (s : ByteArray) (h : s.size ≤ 1000000000) : Ev (fun k => sidingref19_Written.f k s) (wrB s) := by
 unfold sidingref19_Written.f wrB marky
 refine Ev.bd (bare_ev s) (Ev.bc (rmark_val _) ?_)
 have e : strOfNums [92] = (⟨#[92]⟩ : ByteArray) := rfl
 by_cases c : 0 ≤ markN (bareB s)
 ·rw [if_pos (decide_eq_true c)]
  refine Ev.pos c (Ev.bs ?_)
  rw [e]
  exact Ev.pos (by have : (⟨#[92]⟩ : ByteArray).size = 1 := rfl; omega) (Ev.now _)
 ·refine Ev.eq (if_neg (by rw [decide_eq_true_eq]; exact c)).symm ?_
  exact Ev.neg c (Ev.now _)
theorem hd92_bt (s : ByteArray) : hd92 s = decide (0 < s.size ∧ bt s 0 = 92) := by
 unfold hd92
 by_cases h : 0 < s.size
 ·rw [decide_eq_true (show 1 ≤ s.size by omega), Bool.true_and, Bool.eq_iff_iff, beq_iff_eq, decide_eq_true_eq]
  rw [Go.Lib.extract_toList]
  obtain ⟨b, r, hl⟩ : ∃ b r, s.data.toList = b :: r := by
   cases h2 : s.data.toList with
   | nil =>
    have := congrArg List.length h2
    rw [Array.length_toList] at this
    have h3 : s.size = 0 := this
    omega
   | cons b r => exact ⟨b, r, rfl⟩
  have hb : bt s 0 = (b.toNat : Int) := by
   unfold bt
   rw [dif_pos (by simpa using h)]
   have : s.data.toList[0]? = some b := by rw [hl]; rfl
   rw [Array.getElem?_toList] at this
   obtain ⟨_, h4⟩ := Array.getElem?_eq_some_iff.1 this
   show ((s.data[0]).toNat : Int) = _
   rw [h4]
  rw [hb, hl]
  show [b] = [92] ↔ _
  constructor
  ·intro e
   have := (List.cons.inj e).1
   subst this
   exact ⟨h, rfl⟩
  ·rintro ⟨_, e⟩
   have e2 : b.toNat = (92 : UInt8).toNat := by
    have : (92 : UInt8).toNat = 92 := rfl
    omega
   rw [UInt8.toNat_inj.1 e2]
 ·rw [decide_eq_false (show ¬ 1 ≤ s.size by omega), Bool.false_and]
  symm
  exact decide_eq_false (fun e => h e.1)
theorem before_ev (s : ByteArray) : Ev (fun k => sidingref19_before.f k s) (rdB s) := by
 unfold sidingref19_before.f rdB
 rw [hd92_bt]
 by_cases h : 0 < s.size
 ·by_cases c : bt s 0 = 92
  ·rw [decide_eq_true (show 0 < s.size ∧ bt s 0 = 92 from ⟨h, c⟩), Bool.true_and]
   refine Ev.pos (by omega) (Ev.pos (by omega) (Ev.pos c (Ev.bd (bare_ev s) (Ev.bc (rmark_val _) ?_))))
   have eb : bareB s = bareB (s.extract 1 s.size) := by rw [bare_cons s h, if_pos c]
   unfold marky
   rw [← eb]
   by_cases d : 0 ≤ markN (bareB s)
   ·rw [if_pos (decide_eq_true d)]
    exact Ev.pos d (Ev.pos (by omega) (Ev.now _))
   ·refine Ev.eq (if_neg (by rw [decide_eq_true_eq]; exact d)).symm ?_
    exact Ev.neg d (Ev.now _)
  ·rw [decide_eq_false (fun e => c e.2), Bool.false_and]
   exact Ev.pos (by omega) (Ev.pos (by omega) (Ev.neg c (Ev.now _)))
 ·rw [decide_eq_false (fun e => h e.1), Bool.false_and]
  exact Ev.neg (by omega) (Ev.now _)
theorem all_loop (l : List ByteArray) (hl : l.length ≤ 1000000) (hs : ∀ s ∈ l, s.size ≤ 1000000) : ∀ (d i : Nat) (out : List ByteArray), i + d = l.length → out.length ≤ i → Ev (fun k => sidingref19_all.l0 k l out (i : Int)) (out ++ (l.drop i).map wrB) := by
 intro d
 induction d with
 | zero =>
  intro i out hi ho
  obtain rfl : i = l.length := by omega
  refine Ev.step (fun k => by rw [sidingref19_all.l0]) (Ev.neg (by omega) (Ev.rt ?_))
  rw [List.drop_length]
  simp
 | succ d ih =>
  intro i out hi ho
  have h : i < l.length := by omega
  have hz := hs _ (List.getElem_mem h)
  refine Ev.step (fun k => by rw [sidingref19_all.l0]) (Ev.pos (by omega) (Ev.pos (by omega) ?_))
  rw [rdOf_at _ _ _ h]
  refine Ev.bd (written_ev _ (by omega)) (Ev.pos (by omega) ?_)
  rw [w64 (by omega)]
  refine Ev.eq ?_ (ih (i + 1) (out ++ [wrB l[i]]) (by omega) (by rw [List.length_append]; simp; omega))
  rw [drop_at l i h, List.map_cons, List.append_assoc]
  rfl
theorem all_ev (l : List ByteArray) (h : rowfine l = true) : Ev (fun k => sidingref19_all.f k l) (l.map wrB) := by
 obtain ⟨h1, h2⟩ := rowfine_len h
 have := all_loop l (by omega) h2 l.length 0 [] (by omega) (by simp)
 exact Ev.eq (by simp) this
def untL : List ByteArray → List ByteArray × Nat
 | [] => ([], 0)
 | s :: t => if 0 ≤ markN s then ([], 0) else (rdB s :: (untL t).1, (untL t).2 + 1)
theorem untL_len : ∀ (l : List ByteArray), (untL l).1.length = (untL l).2 ∧ (untL l).2 ≤ l.length
 | [] => ⟨rfl, Nat.le_refl _⟩
 | s :: t => by
  have ih := untL_len t
  unfold untL
  split
  ·exact ⟨rfl, Nat.zero_le _⟩
  ·exact ⟨by simp [ih.1], by rw [List.length_cons]; show (untL t).2 + 1 ≤ _; omega⟩
theorem until_loop (l : List ByteArray) (hl : l.length ≤ 1000000) : ∀ (d i : Nat) (out : List ByteArray), i + d = l.length → out.length ≤ i → Ev (fun k => sidingref19_until.l0 k l out (i : Int)) (out ++ (untL (l.drop i)).1, ((i + (untL (l.drop i)).2 : Nat) : Int)) := by
 intro d
 induction d with
 | zero =>
  intro i out hi ho
  obtain rfl : i = l.length := by omega
  refine Ev.step (fun k => by rw [sidingref19_until.l0]) (Ev.neg (by omega) (Ev.rt ?_))
  rw [List.drop_length]
  simp [untL]
 | succ d ih =>
  intro i out hi ho
  have h : i < l.length := by omega
  refine Ev.step (fun k => by rw [sidingref19_until.l0]) (Ev.pos (by omega) (Ev.pos (by omega) ?_))
  rw [rdOf_at _ _ _ h, drop_at l i h]
  refine Ev.bc (rmark_val _) ?_
  unfold untL
  by_cases c : 0 ≤ markN l[i]
  ·rw [if_pos c]
   refine Ev.pos c (Ev.rt ?_)
   simp
  ·rw [if_neg c]
   refine Ev.neg c (Ev.bd (before_ev _) (Ev.pos (by omega) ?_))
   rw [w64 (by omega)]
   refine Ev.eq ?_ (ih (i + 1) (out ++ [rdB l[i]]) (by omega) (by rw [List.length_append]; simp; omega))
   simp only [List.append_assoc, Prod.mk.injEq]
   exact ⟨rfl, by omega⟩
theorem until_ev (l : List ByteArray) (hl : l.length ≤ 1000000) : Ev (fun k => sidingref19_until.f k l) ((untL l).1, ((untL l).2 : Int)) := by
 have := until_loop l hl l.length 0 [] (by omega) (by simp)
 exact Ev.eq (by simp) this
end Go.Proofs.YtpklfaglenkdaaaDoor.Pr
end
section
namespace Go.Proofs.YtpklfaglenkdaaaDoor.Pr
open Go.RowKit Go.Proofs.YtpklfaglenkdaaaDoorW.PrintWords Go.Proofs.YtpklfaglenkdaaaDoorW.PrintLast Go.Proofs.YtpklfaglenkdaaaDoorW.PrintMore
def tiny (l : List ByteArray) : Prop := ∀ s ∈ l, s.size ≤ 1000000000
theorem tiny.small {l : List ByteArray} (h : tiny l) : small l := fun s hs => by have := h s hs; omega
theorem tiny.take {l : List ByteArray} (h : tiny l) (i : Nat) : tiny (l.take i) := fun s hs => h s (List.mem_of_mem_take hs)
theorem tiny.drop {l : List ByteArray} (h : tiny l) (i : Nat) : tiny (l.drop i) := fun s hs => h s (List.mem_of_mem_drop hs)
theorem tiny.append {l m : List ByteArray} (h : tiny l) (k : tiny m) : tiny (l ++ m) := fun s hs => (List.mem_append.1 hs).elim (h s) (k s)
theorem bytesIn_tiny (l : List ByteArray) (h : tiny l) : bytesIn l ≤ l.length * 1000000000 := by
 induction l with
 | nil => simp [bytesIn]
 | cons s l ih =>
  have h1 := h s (by simp)
  have h2 := ih (fun x hx => h x (by simp [hx]))
  simp only [bytesIn, List.map_cons, List.sum_cons, List.length_cons] at h2 ⊢
  omega
def fed (l : List ByteArray) : List Int := (l.map fun s => 10 :: bytesOf s).flatten
def textOf (l : List ByteArray) : List Int := (fed l).drop 1
theorem fed_length (l : List ByteArray) : (fed l).length = bytesIn l + l.length := by
 induction l with
 | nil => rfl
 | cons s l ih =>
  have e : fed (s :: l) = (10 :: bytesOf s) ++ fed l := by simp [fed]
  rw [e, List.length_append, ih, List.length_cons, bytesOf_length]
  simp only [bytesIn, List.map_cons, List.sum_cons, List.length_cons]
  omega
theorem textOf_length (l : List ByteArray) : (textOf l).length = bytesIn l + l.length - 1 := by
 rw [textOf, List.length_drop, fed_length]
theorem fed_take_succ (l : List ByteArray) (i : Nat) (h : i < l.length) : fed (l.take (i + 1)) = fed (l.take i) ++ 10 :: bytesOf l[i] := by
 unfold fed
 rw [take_succ_at l i h, List.map_append, List.flatten_append]
 simp
theorem textOf_take_succ (l : List ByteArray) (i : Nat) (h : i < l.length) : textOf (l.take (i + 1)) = if i = 0 then bytesOf l[i] else textOf (l.take i) ++ 10 :: bytesOf l[i] := by
 unfold textOf
 rw [fed_take_succ l i h]
 by_cases h0 : i = 0
 ·subst h0
  simp [fed]
 ·rw [if_neg h0]
  have := fed_length (l.take i)
  have h1 : (l.take i).length = i := by rw [List.length_take]; omega
  rw [List.drop_append_of_le_length (by omega)]
end Go.Proofs.YtpklfaglenkdaaaDoor.Pr
end
section
namespace Go.Proofs.YtpklfaglenkdaaaDoor.Pr
open Go.RowKit Go.Proofs.YtpklfaglenkdaaaDoorW.PrintWords Go.Proofs.YtpklfaglenkdaaaDoorW.PrintLast Go.Proofs.YtpklfaglenkdaaaDoorW.PrintMore
theorem text_loop (l : List ByteArray) (hs : tiny l) (hl : l.length ≤ 100000) : ∀ (d i : Nat), i + d = l.length → Ev (fun k => sidingref13_Text.l0 k l (textOf (l.take i)) (i : Int)) (textOf l) := by
 intro d
 induction d with
 | zero =>
  intro i hi
  obtain rfl : i = l.length := by omega
  refine Ev.step (fun k => by rw [sidingref13_Text.l0]) (Ev.neg (by omega) ?_)
  rw [List.take_length]
  exact Ev.now _
 | succ d ih =>
  intro i hi
  have hlt : i < l.length := by omega
  have hb := bytesIn_tiny _ (hs.take (i + 1))
  have hb1 := bytesIn_take_succ l i hlt
  have hk : (l.take (i + 1)).length = i + 1 := by rw [List.length_take]; omega
  have hk' : (l.take i).length = i := by rw [List.length_take]; omega
  have ht := textOf_length (l.take i)
  refine Ev.step (fun k => by rw [sidingref13_Text.l0]) (Ev.pos (by omega) ?_)
  have h := ih (i + 1) (by omega)
  rw [textOf_take_succ l i hlt] at h
  rw [rdOf_at _ _ _ hlt, w64 (by omega)]
  by_cases h0 : i = 0
  ·subst h0
   rw [if_pos rfl] at h
   refine Ev.neg (by omega) (Ev.pos (by omega) (Ev.pos (by omega) ?_))
   simpa [textOf, fed] using h
  ·rw [if_neg h0] at h
   refine Ev.pos (by omega) (Ev.pos (by omega) (Ev.bs (Ev.pos (by omega) (Ev.pos ?_ ?_))))
   ·rw [List.length_append, List.length_singleton]
    omega
   ·simpa using h
theorem text_ev (l : List ByteArray) (hs : tiny l) (hl : l.length ≤ 100000) : Ev (fun k => sidingref13_Text.f k l) (textOf l) := by
 unfold sidingref13_Text.f
 have h := text_loop l hs hl l.length 0 (by omega)
 simpa [textOf, fed] using h
theorem feed_ev (l : List ByteArray) (hs : tiny l) : ref13_Feed.f l = some (l.any feedy) := by
 unfold ref13_Feed.f
 rw [if_pos]
 exact List.all_eq_true.2 fun s hm => decide_eq_true (by have := hs s hm; omega)
theorem rlines_ev (l : List ByteArray) (hs : tiny l) : Ev (fun k => sidingref13_Lines.f k l) (linesErr l) := by
 unfold sidingref13_Lines.f linesErr
 by_cases h1 : 60 < l.length
 ·rw [if_pos h1]
  exact Ev.pos (by omega) (Ev.step (fun k => by rw [sidingref13_Lines.j0]) (Ev.pos rfl (Ev.now _)))
 ·rw [if_neg h1]
  refine Ev.neg (by omega) (Ev.bd (text_ev l hs (by omega)) ?_)
  have ht := textOf_length l
  refine Ev.step (fun k => by rw [sidingref13_Lines.j0]) ?_
  by_cases h2 : 2001 < bytesIn l + l.length
  ·rw [if_pos h2]
   exact Ev.pos (decide_eq_true (by omega)) (Ev.now _)
  ·rw [if_neg h2]
   refine Ev.neg (by simp; omega) ?_
   by_cases h3 : l.length = 0
   ·rw [if_pos h3]
    exact Ev.pos (by omega) (Ev.now _)
   ·rw [if_neg h3]
    refine Ev.neg (by omega) (Ev.bc (feed_ev l hs) ?_)
    by_cases h4 : l.any feedy = true
    ·exact Ev.pos h4 (Ev.rt (if_pos h4).symm)
    ·exact Ev.neg h4 (Ev.rt (if_neg h4).symm)
def longOf (l : List ByteArray) : Bool := (l.take 201).any (fun s => decide (3000 < s.size)) || decide (200 < l.length)
theorem long_loop (l : List ByteArray) (hl : l.length ≤ 9000000000000000000) : ∀ (d i : Nat), i + d = 201 → Ev (fun k => sidingref13_Long.l0 k l (i : Int)) (((l.take 201).drop i).any (fun s => decide (3000 < s.size)) || decide (200 < l.length)) := by
 intro d
 induction d with
 | zero =>
  intro i hi
  obtain rfl : i = 201 := by omega
  have e : (l.take 201).drop 201 = [] := List.drop_eq_nil_of_le (by rw [List.length_take]; omega)
  rw [e]
  refine Ev.step (fun k => by rw [sidingref13_Long.l0]) ?_
  by_cases h : 201 < l.length
  ·refine Ev.pos (by omega) (Ev.step (fun k => by rw [sidingref13_Long.j1]) (Ev.neg (by decide) (Ev.rt ?_)))
   simp
   omega
  ·refine Ev.neg (by omega) (Ev.step (fun k => by rw [sidingref13_Long.j1]) (Ev.neg (by decide) (Ev.rt ?_)))
   simp
   omega
 | succ d ih =>
  intro i hi
  refine Ev.step (fun k => by rw [sidingref13_Long.l0]) ?_
  by_cases h : i < l.length
  ·have hlt : i < (l.take 201).length := by rw [List.length_take]; omega
   have e : (l.take 201).drop i = l[i] :: (l.take 201).drop (i + 1) := by rw [drop_at _ i hlt]; simp
   rw [e, List.any_cons]
   refine Ev.pos (by omega) (Ev.step (fun k => by rw [sidingref13_Long.j1]) (Ev.pos (by simp; omega) (Ev.pos (by omega) (Ev.pos (by omega) ?_))))
   rw [rdOf_at _ _ _ h, w64 (by omega)]
   by_cases h3 : 3000 < l[i].size
   ·refine Ev.pos (by omega) (Ev.rt ?_)
    simp [h3]
   ·refine Ev.neg (by omega) ?_
    have := ih (i + 1) (by omega)
    simpa [h3] using this
  ·have e : (l.take 201).drop i = [] := List.drop_eq_nil_of_le (by rw [List.length_take]; omega)
   rw [e]
   refine Ev.neg (by omega) (Ev.step (fun k => by rw [sidingref13_Long.j1]) (Ev.neg (by decide) (Ev.rt ?_)))
   simp
   omega
theorem long_ev (l : List ByteArray) (hl : l.length ≤ 9000000000000000000) : Ev (fun k => sidingref13_Long.f k l) (longOf l) := by
 unfold sidingref13_Long.f
 have h := long_loop l hl 201 0 (by omega)
 simpa [longOf] using h
theorem longOf_false {l : List ByteArray} (h : longOf l = false) : l.length ≤ 200 ∧ ∀ s ∈ l, s.size ≤ 3000 := by
 unfold longOf at h
 rw [Bool.or_eq_false_iff] at h
 obtain ⟨h1, h2⟩ := h
 have hl : l.length ≤ 200 := by simpa using h2
 rw [List.take_of_length_le (by omega), List.any_eq_false] at h1
 exact ⟨hl, fun s hs => by simpa using h1 s hs⟩
theorem longOf_tiny {l : List ByteArray} (h : longOf l = false) : l.length ≤ 200 ∧ tiny l := ⟨(longOf_false h).1, fun s hs => by have := (longOf_false h).2 s hs; omega⟩
theorem same_loop (a b : List ByteArray) (hl : a.length = b.length) (hb : a.length ≤ 9000000000000000000) : ∀ (d i : Nat), i + d = a.length → Ev (fun k => sidingref13_Same.l0 k a b (i : Int)) (decide (a.drop i = b.drop i)) := by
 intro d
 induction d with
 | zero =>
  intro i hi
  obtain rfl : i = a.length := by omega
  refine Ev.step (fun k => by rw [sidingref13_Same.l0]) (Ev.neg (by omega) (Ev.rt ?_))
  rw [List.drop_length, hl, List.drop_length]
  rfl
 | succ d ih =>
  intro i hi
  have h1 : i < a.length := by omega
  have h2 : i < b.length := by omega
  refine Ev.step (fun k => by rw [sidingref13_Same.l0]) (Ev.pos (by omega) (Ev.pos (by omega) (Ev.pos (by omega) ?_)))
  rw [rdOf_at _ _ _ h1, rdOf_at _ _ _ h2, w64 (by omega), drop_at a i h1, drop_at b i h2]
  by_cases h : a[i] = b[i]
  ·refine Ev.pos (toList_inj.2 h) ?_
   refine Ev.eq ?_ (ih (i + 1) (by omega))
   rw [Bool.eq_iff_iff, decide_eq_true_iff, decide_eq_true_iff, h, List.cons.injEq]
   simp
  ·refine Ev.neg (fun e => h (toList_inj.1 e)) (Ev.rt ?_)
   symm
   rw [decide_eq_false_iff_not, List.cons.injEq]
   exact fun e => h e.1
theorem same_ev (a b : List ByteArray) (hb : a.length ≤ 9000000000000000000) : Ev (fun k => sidingref13_Same.f k a b) (decide (a = b)) := by
 unfold sidingref13_Same.f
 by_cases h : a.length = b.length
 ·refine Ev.pos (by omega) ?_
  have := same_loop a b h hb a.length 0 (by omega)
  simpa using this
 ·refine Ev.neg (by omega) (Ev.rt ?_)
  symm
  rw [decide_eq_false_iff_not]
  intro e
  exact h (by rw [e])
end Go.Proofs.YtpklfaglenkdaaaDoor.Pr
end
section
namespace Go.Proofs.YtpklfaglenkdaaaDoor.Pr
open Go.RowKit Go.Proofs.YtpklfaglenkdaaaDoorW.PrintWords Go.Proofs.YtpklfaglenkdaaaDoorW.PrintLast Go.Proofs.YtpklfaglenkdaaaDoorW.PrintMore
theorem rd_p (l : List S43) (i : Nat) (h : i < l.length) : rd_T43 l (i : Int) = l[i] := by simp [rd_T43, h]
def tinyP (x : S43) : Prop := (tiny x.f1 ∧ x.f1.length ≤ 1000000) ∧ (tiny x.f2 ∧ x.f2.length ≤ 1000000) ∧ (tiny x.f3 ∧ x.f3.length ≤ 1000000)
theorem wide_any (l : List ByteArray) : l.any widey = (l.any (fun s => decide (2000 < s.size)) || l.any feedy) := by
 induction l with
 | nil => rfl
 | cons s l ih =>
  simp only [List.any_cons, ih]
  unfold widey
  cases decide (2000 < s.size) <;> cases feedy s <;> simp
theorem plain15_loop (l : List ByteArray) (ht : tiny l) (hl : l.length ≤ 1000000) : ∀ (d i : Nat), i + d = l.length → Ev (fun k => sidingref15_Plain.l0 k l (i : Int)) (!((l.drop i).any fun s => decide (2000 < s.size)) && (decide (l.length ≤ 60) && !l.any feedy)) := by
 intro d
 induction d with
 | zero =>
  intro i hi
  obtain rfl : i = l.length := by omega
  refine Ev.step (fun k => by rw [sidingref15_Plain.l0]) (Ev.neg (by omega) ?_)
  rw [List.drop_length]
  by_cases h : l.length ≤ 60
  ·refine Ev.pos (by omega) (Ev.bc (feed_ev l ht) (Ev.rt ?_))
   rw [decide_eq_true h]
   simp
  ·refine Ev.neg (by omega) (Ev.rt ?_)
   rw [decide_eq_false h]
   simp
 | succ d ih =>
  intro i hi
  have h : i < l.length := by omega
  refine Ev.step (fun k => by rw [sidingref15_Plain.l0]) (Ev.pos (by omega) (Ev.pos (by omega) ?_))
  rw [rdOf_at _ _ _ h, drop_at l i h, List.any_cons]
  by_cases c : 2000 < l[i].size
  ·refine Ev.pos (by omega) (Ev.rt ?_)
   rw [decide_eq_true c]
   simp
  ·refine Ev.neg (by omega) ?_
   rw [w64 (by omega), decide_eq_false c, Bool.false_or]
   exact ih (i + 1) (by omega)
theorem plain15_ev (l : List ByteArray) (ht : tiny l) (hl : l.length ≤ 1000000) : Ev (fun k => sidingref15_Plain.f k l) (mplainB l) := by
 have h := plain15_loop l ht hl l.length 0 (by omega)
 refine Ev.eq ?_ h
 unfold mplainB
 rw [wide_any, List.drop_zero]
 cases (l.any fun s => decide (2000 < s.size)) <;> cases (l.any feedy) <;> cases (decide (l.length ≤ 60)) <;> rfl
theorem kind_ev (a b c : List ByteArray) (ha : a.length ≤ 1000000) (hb : b.length ≤ 1000000) (hc : c.length ≤ 1000000) : Ev (fun k => sidingref18_Kind.f k a b c) (kindB a b c) := by
 unfold sidingref18_Kind.f
 refine Ev.bd (same_ev b c (by omega)) (Ev.bd (same_ev c a (by omega)) (Ev.bd (same_ev b a (by omega)) ?_))
 have e1 : decide (a = c) = decide (c = a) := decide_eq_decide.2 eq_comm
 have e2 : decide (a = b) = decide (b = a) := decide_eq_decide.2 eq_comm
 unfold kindB
 rw [e1, e2]
 have tr1 : b = c → c = a → b = a := fun h1 h2 => h1.trans h2
 have tr2 : b = c → b = a → c = a := fun h1 h2 => h1.symm.trans h2
 have tr3 : c = a → b = a → b = c := fun h1 h2 => h2.trans h1.symm
 by_cases h1 : b = c
 ·rw [decide_eq_true h1]
  refine Ev.pos rfl (Ev.step (fun k => by rw [sidingref18_Kind.j0]) ?_)
  by_cases h2 : c = a
  ·rw [decide_eq_true h2, decide_eq_true (tr1 h1 h2)]
   exact Ev.pos rfl (Ev.now _)
  ·rw [decide_eq_false h2, decide_eq_false (fun h3 => h2 (tr2 h1 h3))]
   exact Ev.neg (by decide) (Ev.pos rfl (Ev.now _))
 ·rw [decide_eq_false h1]
  refine Ev.neg (by decide) (Ev.step (fun k => by rw [sidingref18_Kind.j0]) (Ev.neg (by decide) (Ev.neg (by decide) ?_)))
  by_cases h2 : c = a
  ·rw [decide_eq_true h2, decide_eq_false (fun h3 => h1 (tr3 h2 h3))]
   exact Ev.pos rfl (Ev.now _)
  ·rw [decide_eq_false h2]
   refine Ev.neg (by decide) ?_
   by_cases h3 : b = a
   ·rw [decide_eq_true h3]
    exact Ev.pos rfl (Ev.now _)
   ·rw [decide_eq_false h3]
    exact Ev.neg (by decide) (Ev.now _)
theorem kind_one {a b c : List ByteArray} (h : kindB a b c = 1) : a = b ∧ b = c := by
 unfold kindB at h
 by_cases h1 : b = c <;> by_cases h2 : a = c <;> by_cases h3 : a = b <;> simp [h1, h2, h3, kindOf] at h <;> first | exact ⟨h3, h1⟩ | (subst_vars; simp_all [kindOf])
theorem valid18_ev (x : S43) (ht : tinyP x) : Ev (fun k => sidingref18_Valid.f k x.f0 x.f1 x.f2 x.f3) (!mbad x) := by
 obtain ⟨⟨t1, l1⟩, ⟨t2, l2⟩, ⟨t3, l3⟩⟩ := ht
 unfold sidingref18_Valid.f mbad
 refine Ev.bd (plain15_ev _ t1 l1) ?_
 cases p1 : mplainB x.f1 with
 | false => exact Ev.neg (by decide) (Ev.rt rfl)
 | true =>
  refine Ev.pos rfl (Ev.bd (plain15_ev _ t2 l2) ?_)
  cases p2 : mplainB x.f2 with
  | false => exact Ev.neg (by decide) (Ev.rt rfl)
  | true =>
   refine Ev.pos rfl (Ev.bd (plain15_ev _ t3 l3) ?_)
   cases p3 : mplainB x.f3 with
   | false => exact Ev.neg (by decide) (Ev.rt rfl)
   | true =>
    refine Ev.pos rfl (Ev.bd (kind_ev _ _ _ l1 l2 l3) ?_)
    simp only [Bool.not_true, Bool.false_or]
    by_cases hk : x.f0 = kindB x.f1 x.f2 x.f3
    ·refine Ev.pos hk ?_
     rw [show decide (x.f0 ≠ kindB x.f1 x.f2 x.f3) = false from decide_eq_false (fun hn => hn hk), Bool.false_or]
     by_cases h1 : x.f0 = 1
     ·refine Ev.pos h1 (Ev.rt ?_)
      obtain ⟨e1, e2⟩ := kind_one (hk.symm.trans h1)
      have g1 := congrArg List.length e1
      have g2 := congrArg List.length e2
      by_cases h0 : 0 < x.f1.length
      ·rw [decide_eq_true (show (x.f1.length : Int) > 0 by omega), show decide (x.f1.length + x.f2.length + x.f3.length = 0) = false from decide_eq_false (by omega)]
       rfl
      ·rw [decide_eq_false (show ¬ (x.f1.length : Int) > 0 by omega), show decide (x.f1.length + x.f2.length + x.f3.length = 0) = true from decide_eq_true (by omega)]
       rfl
     ·refine Ev.neg h1 (Ev.rt ?_)
      rw [show decide (x.f1.length + x.f2.length + x.f3.length = 0) = false from decide_eq_false (fun h0 => h1 (by
       have e1 : x.f1 = [] := List.eq_nil_of_length_eq_zero (by omega)
       have e2 : x.f2 = [] := List.eq_nil_of_length_eq_zero (by omega)
       have e3 : x.f3 = [] := List.eq_nil_of_length_eq_zero (by omega)
       rw [hk, e1, e2, e3]
       rfl))]
      rfl
    ·refine Ev.neg hk (Ev.rt ?_)
     rw [show decide (x.f0 ≠ kindB x.f1 x.f2 x.f3) = true from decide_eq_true hk]
     rfl
def checkP (l : List S43) : Int := if 130 < l.length then 4 else if l.any mbad = true then 8 else 0
theorem mcheck_val (l : List S43) : merge_Check.f l = some (checkP l) := rfl
theorem pcheck_loop (l : List S43) (hl : l.length ≤ 130) (ht : ∀ x ∈ l, tinyP x) : ∀ (d i : Nat), i + d = l.length → Ev (fun k => sidingref18_Check.l0 k l (i : Int)) (if (l.drop i).any mbad = true then 8 else 0) := by
 intro d
 induction d with
 | zero =>
  intro i hi
  obtain rfl : i = l.length := by omega
  refine Ev.step (fun k => by rw [sidingref18_Check.l0]) (Ev.neg (by omega) (Ev.rt ?_))
  rw [List.drop_length]
  rfl
 | succ d ih =>
  intro i hi
  have h : i < l.length := by omega
  refine Ev.step (fun k => by rw [sidingref18_Check.l0]) (Ev.pos (by omega) (Ev.pos (by omega) ?_))
  rw [rd_p _ _ h, drop_at l i h, List.any_cons]
  refine Ev.bd (valid18_ev _ (ht _ (List.getElem_mem h))) ?_
  cases hb : mbad l[i] with
  | true => exact Ev.neg (by decide) (Ev.rt (by simp))
  | false =>
   refine Ev.pos rfl ?_
   rw [w64 (by omega), Bool.false_or]
   exact ih (i + 1) (by omega)
theorem pcheck_ev (l : List S43) (ht : ∀ x ∈ l, tinyP x) : Ev (fun k => sidingref18_Check.f k l) (checkP l) := by
 unfold sidingref18_Check.f checkP
 by_cases h : 130 < l.length
 ·rw [if_pos h]
  exact Ev.pos (by omega) (Ev.now _)
 ·rw [if_neg h]
  refine Ev.neg (by omega) ?_
  have := pcheck_loop l (by omega) ht l.length 0 (by omega)
  simpa using this
theorem checkP_zero {l : List S43} (h : checkP l = 0) : l.length ≤ 130 ∧ ∀ x ∈ l, mbad x = false := by
 unfold checkP at h
 split at h
 ·cases h
 ·split at h
  ·cases h
  ·rename_i h1 h2
   exact ⟨by omega, fun x hx => by
    cases hb : mbad x with
    | false => rfl
    | true => exact absurd (List.any_eq_true.2 ⟨x, hx, hb⟩) h2⟩
def plong (l : List S43) : Bool := (l.take 201).any (fun h => longOf h.f1 || (longOf h.f2 || longOf h.f3)) || decide (200 < l.length)
def long19 (l : List ByteArray) : Bool := (l.take 501).any (fun s => decide (3000 < s.size)) || decide (500 < l.length)
theorem plong_loop (l : List S43) (hl : l.length ≤ 9000000000000000000) (ht : ∀ h ∈ l, h.f1.length ≤ 9000000000000000000 ∧ h.f2.length ≤ 9000000000000000000 ∧ h.f3.length ≤ 9000000000000000000) : ∀ (d i : Nat), i + d = 201 →
  Ev (fun k => sidingref18_Long.l0 k l (i : Int)) (((l.take 201).drop i).any (fun h => longOf h.f1 || (longOf h.f2 || longOf h.f3)) || decide (200 < l.length)) := by
 intro d
 induction d with
 | zero =>
  intro i hi
  obtain rfl : i = 201 := by omega
  have e : (l.take 201).drop 201 = [] := List.drop_eq_nil_of_le (by rw [List.length_take]; omega)
  rw [e]
  refine Ev.step (fun k => by rw [sidingref18_Long.l0]) ?_
  by_cases h : 201 < l.length
  ·refine Ev.pos (by omega) (Ev.step (fun k => by rw [sidingref18_Long.j1]) (Ev.neg (by decide) (Ev.rt ?_)))
   simp
   omega
  ·refine Ev.neg (by omega) (Ev.step (fun k => by rw [sidingref18_Long.j1]) (Ev.neg (by decide) (Ev.rt ?_)))
   simp
   omega
 | succ d ih =>
  intro i hi
  refine Ev.step (fun k => by rw [sidingref18_Long.l0]) ?_
  by_cases h : i < l.length
  ·have hlt : i < (l.take 201).length := by rw [List.length_take]; omega
   have e : (l.take 201).drop i = l[i] :: (l.take 201).drop (i + 1) := by rw [drop_at _ i hlt]; simp
   rw [e, List.any_cons]
   obtain ⟨t1, t2, t3⟩ := ht _ (List.getElem_mem h)
   refine Ev.pos (by omega) (Ev.step (fun k => by rw [sidingref18_Long.j1]) (Ev.pos (by simp; omega) (Ev.pos (by omega) (Ev.pos (by omega) ?_))))
   rw [rd_p _ _ h, w64 (by omega)]
   refine Ev.bd (long_ev _ t1) ?_
   cases h1 : longOf l[i].f1 with
   | true => exact Ev.pos rfl (Ev.rt (by simp))
   | false =>
    refine Ev.neg (by decide) (Ev.bd (long_ev _ t2) ?_)
    cases h2 : longOf l[i].f2 with
    | true => exact Ev.pos rfl (Ev.rt (by simp))
    | false =>
     refine Ev.neg (by decide) (Ev.bd (long_ev _ t3) ?_)
     cases h3 : longOf l[i].f3 with
     | true => exact Ev.pos rfl (Ev.rt (by simp))
     | false =>
      refine Ev.neg (by decide) ?_
      have := ih (i + 1) (by omega)
      simpa using this
  ·have e : (l.take 201).drop i = [] := List.drop_eq_nil_of_le (by rw [List.length_take]; omega)
   rw [e]
   refine Ev.neg (by omega) (Ev.step (fun k => by rw [sidingref18_Long.j1]) (Ev.neg (by decide) (Ev.rt ?_)))
   simp
   omega
theorem plong_ev (l : List S43) (hl : l.length ≤ 9000000000000000000) (ht : ∀ h ∈ l, h.f1.length ≤ 9000000000000000000 ∧ h.f2.length ≤ 9000000000000000000 ∧ h.f3.length ≤ 9000000000000000000) : Ev (fun k => sidingref18_Long.f k l) (plong l) := by
 unfold sidingref18_Long.f
 have h := plong_loop l hl ht 201 0 (by omega)
 simpa [plong] using h
theorem long19_loop (l : List ByteArray) (hl : l.length ≤ 9000000000000000000) : ∀ (d i : Nat), i + d = 501 → Ev (fun k => sidingref19_Long.l0 k l (i : Int)) (((l.take 501).drop i).any (fun s => decide (3000 < s.size)) || decide (500 < l.length)) := by
 intro d
 induction d with
 | zero =>
  intro i hi
  obtain rfl : i = 501 := by omega
  have e : (l.take 501).drop 501 = [] := List.drop_eq_nil_of_le (by rw [List.length_take]; omega)
  rw [e]
  refine Ev.step (fun k => by rw [sidingref19_Long.l0]) ?_
  by_cases h : 501 < l.length
  ·refine Ev.pos (by omega) (Ev.step (fun k => by rw [sidingref19_Long.j1]) (Ev.neg (by decide) (Ev.rt ?_)))
   simp
   omega
  ·refine Ev.neg (by omega) (Ev.step (fun k => by rw [sidingref19_Long.j1]) (Ev.neg (by decide) (Ev.rt ?_)))
   simp
   omega
 | succ d ih =>
  intro i hi
  refine Ev.step (fun k => by rw [sidingref19_Long.l0]) ?_
  by_cases h : i < l.length
  ·have hlt : i < (l.take 501).length := by rw [List.length_take]; omega
   have e : (l.take 501).drop i = l[i] :: (l.take 501).drop (i + 1) := by rw [drop_at _ i hlt]; simp
   rw [e, List.any_cons]
   refine Ev.pos (by omega) (Ev.step (fun k => by rw [sidingref19_Long.j1]) (Ev.pos (by simp; omega) (Ev.pos (by omega) (Ev.pos (by omega) ?_))))
   rw [rdOf_at _ _ _ h, w64 (by omega)]
   by_cases h3 : 3000 < l[i].size
   ·refine Ev.pos (by omega) (Ev.rt ?_)
    simp [h3]
   ·refine Ev.neg (by omega) ?_
    have := ih (i + 1) (by omega)
    simpa [h3] using this
  ·have e : (l.take 501).drop i = [] := List.drop_eq_nil_of_le (by rw [List.length_take]; omega)
   rw [e]
   refine Ev.neg (by omega) (Ev.step (fun k => by rw [sidingref19_Long.j1]) (Ev.neg (by decide) (Ev.rt ?_)))
   simp
   omega
theorem long19_ev (l : List ByteArray) (hl : l.length ≤ 9000000000000000000) : Ev (fun k => sidingref19_Long.f k l) (long19 l) := by
 unfold sidingref19_Long.f
 have h := long19_loop l hl 501 0 (by omega)
 simpa [long19] using h
deriving instance DecidableEq for S43
def shortP (p : List S43) : Prop := ∀ x ∈ p, x.f1.length ≤ 9000000000000000000 ∧ x.f2.length ≤ 9000000000000000000 ∧ x.f3.length ≤ 9000000000000000000
theorem psame_loop (p q : List S43) (hl : p.length = q.length) (hp : p.length ≤ 9000000000000000000) (hs : shortP p) : ∀ (d i : Nat), i + d = p.length → Ev (fun k => sidingref18_Same.l0 k p q (i : Int)) (decide (p.drop i = q.drop i)) := by
 intro d
 induction d with
 | zero =>
  intro i hi
  obtain rfl : i = p.length := by omega
  refine Ev.step (fun k => by rw [sidingref18_Same.l0]) (Ev.neg (by omega) (Ev.rt ?_))
  rw [List.drop_length, hl, List.drop_length]
  rfl
 | succ d ih =>
  intro i hi
  have h1 : i < p.length := by omega
  have h2 : i < q.length := by omega
  obtain ⟨s1, s2, s3⟩ := hs p[i] (List.getElem_mem h1)
  refine Ev.step (fun k => by rw [sidingref18_Same.l0]) (Ev.pos (by omega) (Ev.pos (by omega) (Ev.pos (by omega) ?_)))
  rw [rd_p p i h1, rd_p q i h2, w64 (by omega), drop_at p i h1, drop_at q i h2]
  have key : p[i] = q[i] ↔ p[i].f0 = q[i].f0 ∧ p[i].f1 = q[i].f1 ∧ p[i].f2 = q[i].f2 ∧ p[i].f3 = q[i].f3 := by
   generalize p[i] = x
   generalize q[i] = y
   cases x
   cases y
   simp
  have no : p[i] ≠ q[i] → decide (p[i] :: p.drop (i + 1) = q[i] :: q.drop (i + 1)) = false := fun h => decide_eq_false (fun e => h (List.cons.inj e).1)
  by_cases e0 : p[i].f0 = q[i].f0
  ·refine Ev.pos e0 (Ev.bd (same_ev _ _ s1) ?_)
   by_cases e1 : p[i].f1 = q[i].f1
   ·refine Ev.pos (decide_eq_true e1) (Ev.bd (same_ev _ _ s2) ?_)
    by_cases e2 : p[i].f2 = q[i].f2
    ·refine Ev.pos (decide_eq_true e2) (Ev.bd (same_ev _ _ s3) ?_)
     by_cases e3 : p[i].f3 = q[i].f3
     ·refine Ev.pos (decide_eq_true e3) ?_
      refine Ev.eq ?_ (ih (i + 1) (by omega))
      rw [Bool.eq_iff_iff, decide_eq_true_iff, decide_eq_true_iff, List.cons.injEq]
      exact ⟨fun h => ⟨key.2 ⟨e0, e1, e2, e3⟩, h⟩, fun h => h.2⟩
     ·exact Ev.neg (by simp [e3]) (Ev.rt (no (fun e => e3 (key.1 e).2.2.2)).symm)
    ·exact Ev.neg (by simp [e2]) (Ev.rt (no (fun e => e2 (key.1 e).2.2.1)).symm)
   ·exact Ev.neg (by simp [e1]) (Ev.rt (no (fun e => e1 (key.1 e).2.1)).symm)
  ·exact Ev.neg e0 (Ev.rt (no (fun e => e0 (key.1 e).1)).symm)
theorem psame_ev (p q : List S43) (hp : p.length ≤ 9000000000000000000) (hs : shortP p) : Ev (fun k => sidingref18_Same.f k p q) (decide (p = q)) := by
 unfold sidingref18_Same.f
 by_cases h : p.length = q.length
 ·refine Ev.pos (by omega) ?_
  have := psame_loop p q h hp hs p.length 0 (by omega)
  simpa using this
 ·refine Ev.neg (by omega) (Ev.rt ?_)
  symm
  rw [decide_eq_false_iff_not]
  intro e
  exact h (by rw [e])
theorem plong_tiny {l : List S43} (h : plong l = false) : l.length ≤ 200 ∧ ∀ x ∈ l, tinyP x ∧ x.f1.length ≤ 200 ∧ x.f2.length ≤ 200 ∧ x.f3.length ≤ 200 := by
 unfold plong at h
 rw [Bool.or_eq_false_iff] at h
 obtain ⟨h1, h2⟩ := h
 have hl : l.length ≤ 200 := by simpa using h2
 rw [List.take_of_length_le (by omega), List.any_eq_false] at h1
 refine ⟨hl, fun x hx => ?_⟩
 have h3 := h1 x hx
 rw [Bool.not_eq_true, Bool.or_eq_false_iff, Bool.or_eq_false_iff] at h3
 obtain ⟨a1, a2⟩ := longOf_tiny h3.1
 obtain ⟨b1, b2⟩ := longOf_tiny h3.2.1
 obtain ⟨c1, c2⟩ := longOf_tiny h3.2.2
 exact ⟨⟨⟨a2, by omega⟩, ⟨b2, by omega⟩, ⟨c2, by omega⟩⟩, a1, b1, c1⟩
theorem long19_false {l : List ByteArray} (h : long19 l = false) : l.length ≤ 500 ∧ ∀ s ∈ l, s.size ≤ 3000 := by
 unfold long19 at h
 rw [Bool.or_eq_false_iff] at h
 obtain ⟨h1, h2⟩ := h
 have hl : l.length ≤ 500 := by simpa using h2
 rw [List.take_of_length_le (by omega), List.any_eq_false] at h1
 exact ⟨hl, fun s hs => by simpa using h1 s hs⟩
end Go.Proofs.YtpklfaglenkdaaaDoor.Pr
end
