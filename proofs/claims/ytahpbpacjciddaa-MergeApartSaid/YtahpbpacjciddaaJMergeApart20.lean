/- Part 20 of the proof of MergeApart: texts put together. -/
import Derived.Test.YtahpbpacjciddaaJMergeApart4
import Derived.Test.YtahpbpacjciddaaJMergeApart9
import Derived.Test.YtahpbpacjciddaaJMergeApart12
import Derived.Test.YtahpbpacjciddaaJMergeApart13
import Derived.Test.YtahpbpacjciddaaJMergeApart14
import Derived.Test.YtahpbpacjciddaaJMergeApart19
set_option linter.unusedVariables false
set_option linter.unusedSimpArgs false
section
namespace Go.Proofs.Ytahpbpacjciddaa.Pr
open Go.RowKit Go.Proofs.YtahpbpacjciddaaW.PrintWords Go.Proofs.YtahpbpacjciddaaW.PrintLast Go.Proofs.YtahpbpacjciddaaW.PrintMore
attribute [local go_sem] max2_int min2_int max_two min_two max_three min_three max_four min_four   
mutual
def sidinglaw18_MergeApart.j0 : Nat → List ByteArray → List ByteArray → List ByteArray → List ByteArray → Bool → ByteArray → Bool → Option (Bool)
 | 0, _, _, _, _, _, _, _ => none
 | k + 1, x0, x1, x2, x3, x9, x10, x39 => if x39 = true then (some x9) else ((some (([] : List ByteArray) : List ByteArray)).bind fun y175 => (if y175.length + x0.length < 8796093022208 then ((some (y175 ++ x0 : List ByteArray)).bind fun y178 => (if y178.length + x1.length < 8796093022208 then ((some (y178 ++ x1 : List ByteArray)).bind fun y181 => (if y181.length + x2.length < 8796093022208 then ((some (y181 ++ x2 : List ByteArray)).bind fun y184 => (if y184.length + x3.length < 8796093022208 then (sidinglaw18_MergeApart.l0 k x0 x1 x2 x3 x9 x10 (y184 ++ x3) 0) else (none))) else (none))) else (none))) else (none)))
def sidinglaw18_MergeApart.l0 : Nat → List ByteArray → List ByteArray → List ByteArray → List ByteArray → Bool → ByteArray → List ByteArray → Int → Option (Bool)
 | 0, _, _, _, _, _, _, _, _ => none
 | k + 1, x0, x1, x2, x3, x9, x10, x11, x12 => if x12 < (x11.length : Int) then (if 0 ≤ x12 then (if (rdOf ByteArray.empty x11 x12).toList = x10.toList then (some x9) else (if ((rdOf ByteArray.empty x11 x12).size : Int) > 20 then (some x9) else (sidinglaw18_MergeApart.l0 k x0 x1 x2 x3 x9 x10 x11 (wrap64 (x12 + 1))))) else (none)) else ((sidinglaw18_joined.f x0 x10 x2).bind fun t192 => ((sidinglaw18_joined.f x1 x10 x2).bind fun t195 => ((sidinglaw18_joined.f x0 x10 x3).bind fun t198 => ((sidinglaw18_joined.f x1 x10 x3).bind fun t201 => ((sidinglaw18_fit.f k t192 t195 t198).bind fun t204 => (if t204 = true then ((sidingref13_Lines.f k t201).bind fun t205 => (if t205 = 0 then ((sidinglaw18_single.f k t192 t195 t198).bind fun t206 => (if t206 = true then (if x9 = true then ((sidinglaw18_gives.f k t192 t195 t198 t201).bind fun t207 => (some t207)) else (some false)) else (some x9))) else (some x9))) else (some x9)))))))
end
def sidinglaw18_MergeApart.f (k : Nat) (l0 : List ByteArray) (l1 : List ByteArray) (l2 : List ByteArray) (l3 : List ByteArray) : Option (Bool) := (sidinglaw18_alive.f).bind fun t174 => (if (l0.length : Int) > 20 then (sidinglaw18_MergeApart.j0 k l0 l1 l2 l3 t174 (⟨#[98, 101, 116, 119, 101, 101, 110]⟩ : ByteArray) true) else (if (l1.length : Int) > 20 then (sidinglaw18_MergeApart.j0 k l0 l1 l2 l3 t174 (⟨#[98, 101, 116, 119, 101, 101, 110]⟩ : ByteArray) true) else (if (l2.length : Int) > 20 then (sidinglaw18_MergeApart.j0 k l0 l1 l2 l3 t174 (⟨#[98, 101, 116, 119, 101, 101, 110]⟩ : ByteArray) true) else (if (l3.length : Int) > 20 then (sidinglaw18_MergeApart.j0 k l0 l1 l2 l3 t174 (⟨#[98, 101, 116, 119, 101, 101, 110]⟩ : ByteArray) true) else (sidinglaw18_MergeApart.j0 k l0 l1 l2 l3 t174 (⟨#[98, 101, 116, 119, 101, 101, 110]⟩ : ByteArray) (!t174))))))
set_option maxHeartbeats 8000000 in
set_option maxRecDepth 100000 in
theorem sidinglaw18_MergeApart.calls (k : Nat) (A0 : Option Addr) (c0 : Nat) (l0 : List ByteArray) (A1 : Option Addr) (c1 : Nat) (l1 : List ByteArray) (A2 : Option Addr) (c2 : Nat) (l2 : List ByteArray) (A3 : Option Addr) (c3 : Nat) (l3 : List ByteArray) (r : Bool) (w : World) (hr0 : Kd.C Kd.string w A0 l0.length l0) (hc0 : l0.length ≤ c0) (hr1 : Kd.C Kd.string w A1 l1.length l1) (hc1 : l1.length ≤ c1) (hr2 : Kd.C Kd.string w A2 l2.length l2) (hc2 : l2.length ≤ c2) (hr3 : Kd.C Kd.string w A3 l3.length l3) (hc3 : l3.length ≤ c3) (h : sidinglaw18_MergeApart.f k l0 l1 l2 l3 = some r) (hr_ : Aside0 (r = true)) :
  Calls Try.prog 5 #[.slice A0 l0.length c0, .slice A1 l1.length c1, .slice A2 l2.length c2, .slice A3 l3.length c3] w fun e w' => e = .returned (.bool r) ∧ Below w.heap.size w w' := by
 have HR0 := Aside0.mk hr0
 have HC0 := Aside0.mk hc0
 clear hr0 hc0
 have HR1 := Aside0.mk hr1
 have HC1 := Aside0.mk hc1
 clear hr1 hc1
 have HR2 := Aside0.mk hr2
 have HC2 := Aside0.mk hc2
 clear hr2 hc2
 have HR3 := Aside0.mk hr3
 have HC3 := Aside0.mk hc3
 clear hr3 hc3
 have HB := Aside0.mk (Below.refl w.heap.size w)
 have H : ((sidinglaw18_alive.f).bind fun t174 => (if (l0.length : Int) > 20 then (sidinglaw18_MergeApart.j0 k l0 l1 l2 l3 t174 (⟨#[98, 101, 116, 119, 101, 101, 110]⟩ : ByteArray) true) else (if (l1.length : Int) > 20 then (sidinglaw18_MergeApart.j0 k l0 l1 l2 l3 t174 (⟨#[98, 101, 116, 119, 101, 101, 110]⟩ : ByteArray) true) else (if (l2.length : Int) > 20 then (sidinglaw18_MergeApart.j0 k l0 l1 l2 l3 t174 (⟨#[98, 101, 116, 119, 101, 101, 110]⟩ : ByteArray) true) else (if (l3.length : Int) > 20 then (sidinglaw18_MergeApart.j0 k l0 l1 l2 l3 t174 (⟨#[98, 101, 116, 119, 101, 101, 110]⟩ : ByteArray) true) else (sidinglaw18_MergeApart.j0 k l0 l1 l2 l3 t174 (⟨#[98, 101, 116, 119, 101, 101, 110]⟩ : ByteArray) (!t174))))))) = some r := h
 clear h
 replace H := Option.bind_eq_some_iff.mp H
 obtain ⟨t174, A50, H⟩ := H
 replace H : (if (l0.length : Int) > 20 then (sidinglaw18_MergeApart.j0 k l0 l1 l2 l3 t174 (⟨#[98, 101, 116, 119, 101, 101, 110]⟩ : ByteArray) true) else (if (l1.length : Int) > 20 then (sidinglaw18_MergeApart.j0 k l0 l1 l2 l3 t174 (⟨#[98, 101, 116, 119, 101, 101, 110]⟩ : ByteArray) true) else (if (l2.length : Int) > 20 then (sidinglaw18_MergeApart.j0 k l0 l1 l2 l3 t174 (⟨#[98, 101, 116, 119, 101, 101, 110]⟩ : ByteArray) true) else (if (l3.length : Int) > 20 then (sidinglaw18_MergeApart.j0 k l0 l1 l2 l3 t174 (⟨#[98, 101, 116, 119, 101, 101, 110]⟩ : ByteArray) true) else (sidinglaw18_MergeApart.j0 k l0 l1 l2 l3 t174 (⟨#[98, 101, 116, 119, 101, 101, 110]⟩ : ByteArray) (!t174)))))) = some r := H
 have A5 := Aside0.mk A50
 clear A50
 have HC6 := Aside0.mk H
 clear H
 go_enter Try.func5, Try.ntmps5
 go_upto_region 3 with (first | ((with_reducible refine gate_callee (f := 13) rfl ?_); refine goesL_ (some 17) rfl rfl Try.func13 (by kernel_rfl) rfl #[] rfl (by (try simp only [List.map_toArray, List.map_cons, List.map_nil]); first | done | rfl | (simp only [List.length_drop, List.length_take]; rfl)) ?_; (with_reducible refine (sidinglaw18_alive.calls  t174 _ A5.out).mono ?_); rintro e w7 ⟨rfl, hb⟩; refine ⟨_, rfl, ?_⟩; have n0_ := Aside0.mk (below_step (by repeat (first | (with_reducible first | exact HB.out | apply below_alloc | apply pw_below_drewN | apply below_drew1) | exact HB.out)) hb); clear HB; have HB := n0_; clear n0_; (try clear hb); (try clear hb2); (try clear hk); (try clear hi)))
 (try simp only [Act.put, List.setIfInBounds_toArray, List.set_cons_zero, List.set_cons_succ])
 go_cut [39] (fun v39 wc => ∃ (kq : Nat) (x39_5 : Bool), v39 = .bool x39_5 ∧ Aside0 (sidinglaw18_MergeApart.j0 kq l0 l1 l2 l3 t174 (⟨#[98, 101, 116, 119, 101, 101, 110]⟩ : ByteArray) x39_5 = some r) ∧ Aside0 (kq ≤ k) ∧ Aside0 (Below w.heap.size w wc))
 case first =>
  have H := HC6.out
  clear HC6
  by_cases c8 : (l0.length : Int) > 20
  ·rw [if_pos c8] at H
   have c8b0 : decide (20 < (l0.length : Int)) = true := decide_eq_true c8
   have c8b1 : decide (20 < l0.length) = true := decide_eq_true (by omega)
   clear c8
   (first | rw [c8b0] | (simp only [i64_w, i32_w]; rw [c8b0]) | skip)
   have H' := Aside0.mk H
   clear H
   go_wp2
   go_meet
   case rel => exact ⟨_, (true), (by first | rfl | (simp; done) | (simp [*]; done)), H', ⟨by first | omega | exact Nat.le_refl _⟩, ⟨by repeat (first | (with_reducible first | exact HB.out | apply below_alloc | apply pw_below_drewN | apply below_drew1) | exact HB.out)⟩⟩
  ·rw [if_neg c8] at H
   have c8b0 : decide (20 < (l0.length : Int)) = false := decide_eq_false c8
   have c8b1 : decide (20 < l0.length) = false := decide_eq_false (by omega)
   clear c8
   (first | rw [c8b0] | (simp only [i64_w, i32_w]; rw [c8b0]) | skip)
   by_cases c9 : (l1.length : Int) > 20
   ·rw [if_pos c9] at H
    have c9b0 : decide (20 < (l1.length : Int)) = true := decide_eq_true c9
    have c9b1 : decide (20 < l1.length) = true := decide_eq_true (by omega)
    clear c9
    have H' := Aside0.mk H
    clear H
    go_wp2
    go_meet
    case rel => exact ⟨_, (true), (by first | rfl | (simp; done) | (simp [*]; done)), H', ⟨by first | omega | exact Nat.le_refl _⟩, ⟨by repeat (first | (with_reducible first | exact HB.out | apply below_alloc | apply pw_below_drewN | apply below_drew1) | exact HB.out)⟩⟩
   ·rw [if_neg c9] at H
    have c9b0 : decide (20 < (l1.length : Int)) = false := decide_eq_false c9
    have c9b1 : decide (20 < l1.length) = false := decide_eq_false (by omega)
    clear c9
    by_cases c10 : (l2.length : Int) > 20
    ·rw [if_pos c10] at H
     have c10b0 : decide (20 < (l2.length : Int)) = true := decide_eq_true c10
     have c10b1 : decide (20 < l2.length) = true := decide_eq_true (by omega)
     clear c10
     have H' := Aside0.mk H
     clear H
     go_wp2
     go_meet
     case rel => exact ⟨_, (true), (by first | rfl | (simp; done) | (simp [*]; done)), H', ⟨by first | omega | exact Nat.le_refl _⟩, ⟨by repeat (first | (with_reducible first | exact HB.out | apply below_alloc | apply pw_below_drewN | apply below_drew1) | exact HB.out)⟩⟩
    ·rw [if_neg c10] at H
     have c10b0 : decide (20 < (l2.length : Int)) = false := decide_eq_false c10
     have c10b1 : decide (20 < l2.length) = false := decide_eq_false (by omega)
     clear c10
     by_cases c11 : (l3.length : Int) > 20
     ·rw [if_pos c11] at H
      have c11b0 : decide (20 < (l3.length : Int)) = true := decide_eq_true c11
      have c11b1 : decide (20 < l3.length) = true := decide_eq_true (by omega)
      clear c11
      have H' := Aside0.mk H
      clear H
      go_wp2
      go_meet
      case rel => exact ⟨_, (true), (by first | rfl | (simp; done) | (simp [*]; done)), H', ⟨by first | omega | exact Nat.le_refl _⟩, ⟨by repeat (first | (with_reducible first | exact HB.out | apply below_alloc | apply pw_below_drewN | apply below_drew1) | exact HB.out)⟩⟩
     ·rw [if_neg c11] at H
      have c11b0 : decide (20 < (l3.length : Int)) = false := decide_eq_false c11
      have c11b1 : decide (20 < l3.length) = false := decide_eq_false (by omega)
      clear c11
      have H' := Aside0.mk H
      clear H
      go_wp2
      go_meet
      case rel => exact ⟨_, (!t174), (by first | rfl | (simp; done) | (simp [*]; done)), H', ⟨by first | omega | exact Nat.le_refl _⟩, ⟨by repeat (first | (with_reducible first | exact HB.out | apply below_alloc | apply pw_below_drewN | apply below_drew1) | exact HB.out)⟩⟩
 case rest =>
  clear HC6
  try clear c1
  try clear c2
  try clear p2
  try clear c3
  try clear c5
  try clear c8
  try clear c8b0
  try clear c8b1
  try clear c9
  try clear c9b0
  try clear c9b1
  try clear c10
  try clear c10b0
  try clear c10b1
  try clear c11
  try clear c11b0
  try clear c11b1
  obtain ⟨kq, x39_5, rfl, HA, HJ5, HB⟩ := hcut
  cases kq with
  | zero => exact absurd HA.out (by simp [sidinglaw18_MergeApart.j0])
  | succ kj5 =>
   have H := HA.out
   clear HA
   simp only [sidinglaw18_MergeApart.j0] at H
   by_cases c12 : x39_5 = true
   ·subst c12
    have H1 : (some t174) = some r := by rw [if_pos rfl] at H; exact H
    clear H
    have H := H1
    clear H1
    obtain rfl := Option.some.inj H
    go_wp2
    go_ret
    exact ⟨by first | rfl | (simp [errW_none, errW_some] <;> rfl) | (simp [*, errW_none, errW_some] <;> rfl), by repeat (first | (with_reducible first | exact HB.out | apply below_alloc | apply pw_below_drewN | apply below_drew1) | exact HB.out)⟩
   ·replace c12 := Bool.eq_false_iff.mpr c12
    subst c12
    have H1 : ((some (([] : List ByteArray) : List ByteArray)).bind fun y175 => (if y175.length + l0.length < 8796093022208 then ((some (y175 ++ l0 : List ByteArray)).bind fun y178 => (if y178.length + l1.length < 8796093022208 then ((some (y178 ++ l1 : List ByteArray)).bind fun y181 => (if y181.length + l2.length < 8796093022208 then ((some (y181 ++ l2 : List ByteArray)).bind fun y184 => (if y184.length + l3.length < 8796093022208 then (sidinglaw18_MergeApart.l0 kj5 l0 l1 l2 l3 t174 (⟨#[98, 101, 116, 119, 101, 101, 110]⟩ : ByteArray) (y184 ++ l3) 0) else (none))) else (none))) else (none))) else (none))) = some r := by rw [if_neg (show ¬ (false = true) by decide)] at H; exact H
    clear H
    have H := H1
    clear H1
    obtain ⟨y175, hy175⟩ : ∃ y_ : List ByteArray, y_ = (([] : List ByteArray)) := ⟨_, rfl⟩
    replace H : (if y175.length + l0.length < 8796093022208 then ((some (y175 ++ l0 : List ByteArray)).bind fun y178 => (if y178.length + l1.length < 8796093022208 then ((some (y178 ++ l1 : List ByteArray)).bind fun y181 => (if y181.length + l2.length < 8796093022208 then ((some (y181 ++ l2 : List ByteArray)).bind fun y184 => (if y184.length + l3.length < 8796093022208 then (sidinglaw18_MergeApart.l0 kj5 l0 l1 l2 l3 t174 (⟨#[98, 101, 116, 119, 101, 101, 110]⟩ : ByteArray) (y184 ++ l3) 0) else (none))) else (none))) else (none))) else (none)) = some r := by first | (rw [hy175]; with_reducible exact H) | (have H2_ := (Option.bind_some _ _).symm.trans H; rw [hy175]; with_reducible exact H2_) | (have H2_ := (Option.bind_some _ _).symm.trans H; with_reducible exact H2_) | with_reducible exact H | (rw [hy175]; exact H) | exact H
    have Ny175 := Aside0.mk hy175
    clear hy175
    by_cases c13 : y175.length + l0.length < 8796093022208
    ·rw [if_pos c13] at H
     have LMc13 := Aside0.mk c13
     clear c13
     obtain ⟨y178, hy178⟩ : ∃ y_ : List ByteArray, y_ = (y175 ++ l0) := ⟨_, rfl⟩
     replace H : (if y178.length + l1.length < 8796093022208 then ((some (y178 ++ l1 : List ByteArray)).bind fun y181 => (if y181.length + l2.length < 8796093022208 then ((some (y181 ++ l2 : List ByteArray)).bind fun y184 => (if y184.length + l3.length < 8796093022208 then (sidinglaw18_MergeApart.l0 kj5 l0 l1 l2 l3 t174 (⟨#[98, 101, 116, 119, 101, 101, 110]⟩ : ByteArray) (y184 ++ l3) 0) else (none))) else (none))) else (none)) = some r := by first | (rw [hy178]; with_reducible exact H) | (have H2_ := (Option.bind_some _ _).symm.trans H; rw [hy178]; with_reducible exact H2_) | (have H2_ := (Option.bind_some _ _).symm.trans H; with_reducible exact H2_) | with_reducible exact H | (rw [hy178]; exact H) | exact H
     have Ny178 := Aside0.mk hy178
     clear hy178
     by_cases c14 : y178.length + l1.length < 8796093022208
     ·rw [if_pos c14] at H
      have LMc14 := Aside0.mk c14
      clear c14
      obtain ⟨y181, hy181⟩ : ∃ y_ : List ByteArray, y_ = (y178 ++ l1) := ⟨_, rfl⟩
      replace H : (if y181.length + l2.length < 8796093022208 then ((some (y181 ++ l2 : List ByteArray)).bind fun y184 => (if y184.length + l3.length < 8796093022208 then (sidinglaw18_MergeApart.l0 kj5 l0 l1 l2 l3 t174 (⟨#[98, 101, 116, 119, 101, 101, 110]⟩ : ByteArray) (y184 ++ l3) 0) else (none))) else (none)) = some r := by first | (rw [hy181]; with_reducible exact H) | (have H2_ := (Option.bind_some _ _).symm.trans H; rw [hy181]; with_reducible exact H2_) | (have H2_ := (Option.bind_some _ _).symm.trans H; with_reducible exact H2_) | with_reducible exact H | (rw [hy181]; exact H) | exact H
      have Ny181 := Aside0.mk hy181
      clear hy181
      by_cases c15 : y181.length + l2.length < 8796093022208
      ·rw [if_pos c15] at H
       have LMc15 := Aside0.mk c15
       clear c15
       obtain ⟨y184, hy184⟩ : ∃ y_ : List ByteArray, y_ = (y181 ++ l2) := ⟨_, rfl⟩
       replace H : (if y184.length + l3.length < 8796093022208 then (sidinglaw18_MergeApart.l0 kj5 l0 l1 l2 l3 t174 (⟨#[98, 101, 116, 119, 101, 101, 110]⟩ : ByteArray) (y184 ++ l3) 0) else (none)) = some r := by first | (rw [hy184]; with_reducible exact H) | (have H2_ := (Option.bind_some _ _).symm.trans H; rw [hy184]; with_reducible exact H2_) | (have H2_ := (Option.bind_some _ _).symm.trans H; with_reducible exact H2_) | with_reducible exact H | (rw [hy184]; exact H) | exact H
       have Ny184 := Aside0.mk hy184
       clear hy184
       by_cases c16 : y184.length + l3.length < 8796093022208
       ·rw [if_pos c16] at H
        have LMc16 := Aside0.mk c16
        clear c16
        obtain ⟨y187, hy187⟩ : ∃ y_ : List ByteArray, y_ = (y184 ++ l3) := ⟨_, rfl⟩
        replace H : (sidinglaw18_MergeApart.l0 kj5 l0 l1 l2 l3 t174 (⟨#[98, 101, 116, 119, 101, 101, 110]⟩ : ByteArray) y187 0) = some r := by first | (rw [hy187]; with_reducible exact H) | (have H2_ := (Option.bind_some _ _).symm.trans H; rw [hy187]; with_reducible exact H2_) | (have H2_ := (Option.bind_some _ _).symm.trans H; with_reducible exact H2_) | with_reducible exact H | (rw [hy187]; exact H) | exact H
        have Ny187 := Aside0.mk hy187
        clear hy187
        have H' := Aside0.mk H
        clear H
        go_wp2_with (first | ((with_reducible refine gate_dst (N := 41) rfl ?_); (try (refine gate_guard (by rfl) ?_; dsimp only)); refine Kd.R_lit Kd.string _ 9 ?hg (N := 41) ?hd (xs := ([] : List ByteArray)) (inner := []) (ok := fun _ => True) (okp := fun _ => True) ?hr ?hp (fun _ hk => hk) trivial (Below.refl _ _) (Nat.le_refl _) (by simp) ?_; (case hd => rfl); (case hg => rfl); (case hr => first | (go_simp; done) | (go_simp; rfl)); (case hp => exact (Reps.none _ _)); intro v176 w17 ho18 hb hg_ hnew_; clear hg_ hnew_; (first | rw [← Ny175.out] at ho18 | (simp only [Int.reduceToNat] at ho18; rw [← Ny175.out] at ho18)); have n0_ := Aside0.mk (Kd.R_lower ho18 (below_size (by repeat (first | (with_reducible first | exact HB.out | apply below_alloc | apply pw_below_drewN | apply below_drew1) | exact HB.out)))); have n1_ := Aside0.mk (below_step (by repeat (first | (with_reducible first | exact HB.out | apply below_alloc | apply pw_below_drewN | apply below_drew1) | exact HB.out)) hb); clear HB; have HO177 := n0_; have HB := n1_; clear n0_ n1_; clear hb ho18) | ((with_reducible refine gate_builtin (b := .append) (xs := #[.tmp 41, .tmp 42]) rfl ?_); (try (refine gate_guard (by rfl) ?_; dsimp only)); at_builtin; refine Kd.R_append_rows Kd.string (w0 := w) w.heap.size rfl (.tmp 41) (.tmp 42) 22 9 (.string ⟨#[]⟩) 16 rfl Try.underlying22 info9 rfl (by decide) (by omega) v176 y175 l0 _ _ _ (fun _ => True) (fun _ => False) rfl rfl ?aO ?aR (fun _ _ h => h) (fun _ h => h.elim) ?aF ?aB ?aS ?aL ?_; (case aR => repeat (first | exact (Kd.C_below HR0.out HB.out) | (with_reducible refine Kd.C_alloc ?_ _) | (with_reducible refine Kd.C_drewN ?_ _) | (with_reducible refine Kd.C_drew ?_))); (case aB => exact (by repeat (first | (with_reducible first | exact HB.out | apply below_alloc | apply pw_below_drewN | apply below_drew1) | exact HB.out))); (case aF => exact (fun _ _ => trivial)); (case aO => exact (by (with_reducible repeat (first | apply Kd.R_alloc | apply Kd.R_drewN | apply Kd.R_drew)); exact HO177.out)); (case aS => exact (below_size (by repeat (first | (with_reducible first | exact HB.out | apply below_alloc | apply pw_below_drewN | apply below_drew1) | exact HB.out)))); (case aL => have := LMc13.out; omega); intro v179 w19 ho hb hg hat; rw [← Ny178.out] at ho; have n0_ := Aside0.mk (hb); have n1_ := Aside0.mk (ho); clear HB; clear HO177; have HB := n0_; have HO180 := n1_; clear n0_ n1_; clear ho hb hg hat) | ((with_reducible refine gate_builtin (b := .append) (xs := #[.tmp 43, .tmp 44]) rfl ?_); (try (refine gate_guard (by rfl) ?_; dsimp only)); at_builtin; refine Kd.R_append_rows Kd.string (w0 := w) w.heap.size rfl (.tmp 43) (.tmp 44) 22 9 (.string ⟨#[]⟩) 16 rfl Try.underlying22 info9 rfl (by decide) (by omega) v179 y178 l1 _ _ _ (fun _ => True) (fun _ => False) rfl rfl ?aO ?aR (fun _ _ h => h) (fun _ h => h.elim) ?aF ?aB ?aS ?aL ?_; (case aR => repeat (first | exact (Kd.C_below HR1.out HB.out) | (with_reducible refine Kd.C_alloc ?_ _) | (with_reducible refine Kd.C_drewN ?_ _) | (with_reducible refine Kd.C_drew ?_))); (case aB => exact (by repeat (first | (with_reducible first | exact HB.out | apply below_alloc | apply pw_below_drewN | apply below_drew1) | exact HB.out))); (case aF => exact (fun _ _ => trivial)); (case aO => exact (by (with_reducible repeat (first | apply Kd.R_alloc | apply Kd.R_drewN | apply Kd.R_drew)); exact HO180.out)); (case aS => exact (below_size (by repeat (first | (with_reducible first | exact HB.out | apply below_alloc | apply pw_below_drewN | apply below_drew1) | exact HB.out)))); (case aL => have := LMc14.out; omega); intro v182 w20 ho hb hg hat; rw [← Ny181.out] at ho; have n0_ := Aside0.mk (hb); have n1_ := Aside0.mk (ho); clear HB; clear HO180; have HB := n0_; have HO183 := n1_; clear n0_ n1_; clear ho hb hg hat) | ((with_reducible refine gate_builtin (b := .append) (xs := #[.tmp 45, .tmp 46]) rfl ?_); (try (refine gate_guard (by rfl) ?_; dsimp only)); at_builtin; refine Kd.R_append_rows Kd.string (w0 := w) w.heap.size rfl (.tmp 45) (.tmp 46) 22 9 (.string ⟨#[]⟩) 16 rfl Try.underlying22 info9 rfl (by decide) (by omega) v182 y181 l2 _ _ _ (fun _ => True) (fun _ => False) rfl rfl ?aO ?aR (fun _ _ h => h) (fun _ h => h.elim) ?aF ?aB ?aS ?aL ?_; (case aR => repeat (first | exact (Kd.C_below HR2.out HB.out) | (with_reducible refine Kd.C_alloc ?_ _) | (with_reducible refine Kd.C_drewN ?_ _) | (with_reducible refine Kd.C_drew ?_))); (case aB => exact (by repeat (first | (with_reducible first | exact HB.out | apply below_alloc | apply pw_below_drewN | apply below_drew1) | exact HB.out))); (case aF => exact (fun _ _ => trivial)); (case aO => exact (by (with_reducible repeat (first | apply Kd.R_alloc | apply Kd.R_drewN | apply Kd.R_drew)); exact HO183.out)); (case aS => exact (below_size (by repeat (first | (with_reducible first | exact HB.out | apply below_alloc | apply pw_below_drewN | apply below_drew1) | exact HB.out)))); (case aL => have := LMc15.out; omega); intro v185 w21 ho hb hg hat; rw [← Ny184.out] at ho; have n0_ := Aside0.mk (hb); have n1_ := Aside0.mk (ho); clear HB; clear HO183; have HB := n0_; have HO186 := n1_; clear n0_ n1_; clear ho hb hg hat) | ((with_reducible refine gate_builtin (b := .append) (xs := #[.tmp 47, .tmp 48]) rfl ?_); (try (refine gate_guard (by rfl) ?_; dsimp only)); at_builtin; refine Kd.R_append_rows Kd.string (w0 := w) w.heap.size rfl (.tmp 47) (.tmp 48) 22 9 (.string ⟨#[]⟩) 16 rfl Try.underlying22 info9 rfl (by decide) (by omega) v185 y184 l3 _ _ _ (fun _ => True) (fun _ => False) rfl rfl ?aO ?aR (fun _ _ h => h) (fun _ h => h.elim) ?aF ?aB ?aS ?aL ?_; (case aR => repeat (first | exact (Kd.C_below HR3.out HB.out) | (with_reducible refine Kd.C_alloc ?_ _) | (with_reducible refine Kd.C_drewN ?_ _) | (with_reducible refine Kd.C_drew ?_))); (case aB => exact (by repeat (first | (with_reducible first | exact HB.out | apply below_alloc | apply pw_below_drewN | apply below_drew1) | exact HB.out))); (case aF => exact (fun _ _ => trivial)); (case aO => exact (by (with_reducible repeat (first | apply Kd.R_alloc | apply Kd.R_drewN | apply Kd.R_drew)); exact HO186.out)); (case aS => exact (below_size (by repeat (first | (with_reducible first | exact HB.out | apply below_alloc | apply pw_below_drewN | apply below_drew1) | exact HB.out)))); (case aL => have := LMc16.out; omega); intro v188 w22 ho hb hg hat; rw [← Ny187.out] at ho; have n0_ := Aside0.mk (hb); have n1_ := Aside0.mk (ho); clear HB; clear HO186; have HB := n0_; have HO189 := n1_; clear n0_ n1_; clear ho hb hg hat))
        go_loopg [12] kj5 (fun kq v12 w' => ∃ (x12_2 : Int), v12 = .int .i64 x12_2 ∧ Aside0 (sidinglaw18_MergeApart.l0 kq l0 l1 l2 l3 t174 (⟨#[98, 101, 116, 119, 101, 101, 110]⟩ : ByteArray) y187 x12_2 = some r) ∧ Aside0 (kq ≤ kj5) ∧ Aside0 (Kd.R Kd.string 9 w' w.heap.size (fun _ => True) v188 y187) ∧ Aside0 (Below w.heap.size w w'))
        case atStart => exact ⟨(0), (by first | rfl | (simp; done) | (simp [*]; done)), H', ⟨Nat.le_refl _⟩, ⟨by (with_reducible repeat (first | apply Kd.R_alloc | apply Kd.R_drewN | apply Kd.R_drew)); exact HO189.out⟩, ⟨by repeat (first | (with_reducible first | exact HB.out | apply below_alloc | apply pw_below_drewN | apply below_drew1) | exact HB.out)⟩⟩
        case round =>
         clear H'
         try clear c1
         try clear c2
         try clear p2
         try clear c3
         try clear c5
         try clear c8
         try clear c8b0
         try clear c8b1
         try clear c9
         try clear c9b0
         try clear c9b1
         try clear c10
         try clear c10b0
         try clear c10b1
         try clear c11
         try clear c11b0
         try clear c11b1
         try clear c12
         try clear c13
         try clear c14
         try clear c15
         try clear c16
         try clear p2
         obtain ⟨x12_2, rfl, HA, HK2, HO_11, HB⟩ := hrel
         cases gk with
         | zero => exact absurd HA.out (by simp [sidinglaw18_MergeApart.l0])
         | succ k2 =>
          have H := HA.out
          clear HA
          simp only [sidinglaw18_MergeApart.l0] at H
          by_cases c23 : x12_2 < (y187.length : Int)
          ·rw [if_pos c23] at H
           have c23b0 : decide (x12_2 < (y187.length : Int)) = true := decide_eq_true c23
           clear c23
           by_cases c24 : 0 ≤ x12_2
           ·rw [if_pos c24] at H
            have c24b0 : decide (0 ≤ x12_2) = true := decide_eq_true c24
            clear c24
            by_cases c25 : (rdOf ByteArray.empty y187 x12_2).toList = (⟨#[98, 101, 116, 119, 101, 101, 110]⟩ : ByteArray).toList
            ·rw [if_pos c25] at H
             have c25b0 : ((rdOf ByteArray.empty y187 x12_2).toList == (⟨#[98, 101, 116, 119, 101, 101, 110]⟩ : ByteArray).toList) = true := beq_iff_eq.mpr c25
             have c25d : ((rdOf ByteArray.empty y187 x12_2).toList == ([98, 101, 116, 119, 101, 101, 110] : List UInt8)) = true := by rw [show ([98, 101, 116, 119, 101, 101, 110] : List UInt8) = (⟨#[98, 101, 116, 119, 101, 101, 110]⟩ : ByteArray).toList by kernel_rfl]; exact c25b0
             have c25b1 : ((rdOf ByteArray.empty y187 x12_2).toList != (⟨#[98, 101, 116, 119, 101, 101, 110]⟩ : ByteArray).toList) = false := bne_eq_false_iff_eq.mpr c25
             clear c25
             obtain rfl := Option.some.inj H
             obtain ⟨Ao26, co26, eo26⟩ := Kd.R_slice HO_11.out
             subst eo26
             have p190 : 0 ≤ (x12_2 : Int) := of_decide_eq_true (by first | (with_reducible assumption) | assumption)
             have q190 : x12_2 < (y187.length : Int) := of_decide_eq_true (by first | (with_reducible assumption) | assumption)
             obtain ⟨ad190, e190, hx190_0⟩ := Kd.at_string (Kd.R_reads' HO_11.out).2.2 x12_2 p190 q190
             cases e190
             replace p190 := eq_true p190
             replace q190 := eq_true q190
             go_wp2
             go_ret
             exact ⟨by first | rfl | (simp [errW_none, errW_some] <;> rfl) | (simp [*, errW_none, errW_some] <;> rfl), by repeat (first | (with_reducible first | exact HB.out | apply below_alloc | apply pw_below_drewN | apply below_drew1) | exact HB.out)⟩
            ·rw [if_neg c25] at H
             have c25b0 : ((rdOf ByteArray.empty y187 x12_2).toList == (⟨#[98, 101, 116, 119, 101, 101, 110]⟩ : ByteArray).toList) = false := beq_eq_false_iff_ne.mpr c25
             have c25d : ((rdOf ByteArray.empty y187 x12_2).toList == ([98, 101, 116, 119, 101, 101, 110] : List UInt8)) = false := by rw [show ([98, 101, 116, 119, 101, 101, 110] : List UInt8) = (⟨#[98, 101, 116, 119, 101, 101, 110]⟩ : ByteArray).toList by kernel_rfl]; exact c25b0
             have c25b1 : ((rdOf ByteArray.empty y187 x12_2).toList != (⟨#[98, 101, 116, 119, 101, 101, 110]⟩ : ByteArray).toList) = true := bne_iff_ne.mpr c25
             by_cases c27 : ((rdOf ByteArray.empty y187 x12_2).size : Int) > 20
             ·rw [if_pos c27] at H
              have c27b0 : decide (20 < ((rdOf ByteArray.empty y187 x12_2).size : Int)) = true := decide_eq_true c27
              have c27b1 : decide (20 < (rdOf ByteArray.empty y187 x12_2).size) = true := decide_eq_true (by omega)
              clear c27
              obtain rfl := Option.some.inj H
              obtain ⟨Ao28, co28, eo28⟩ := Kd.R_slice HO_11.out
              subst eo28
              have p190 : 0 ≤ (x12_2 : Int) := of_decide_eq_true (by first | (with_reducible assumption) | assumption)
              have q190 : x12_2 < (y187.length : Int) := of_decide_eq_true (by first | (with_reducible assumption) | assumption)
              obtain ⟨ad190, e190, hx190_0⟩ := Kd.at_string (Kd.R_reads' HO_11.out).2.2 x12_2 p190 q190
              cases e190
              replace p190 := eq_true p190
              replace q190 := eq_true q190
              have p191 : 0 ≤ (x12_2 : Int) := of_decide_eq_true (by first | (with_reducible assumption) | assumption)
              have q191 : x12_2 < (y187.length : Int) := of_decide_eq_true (by first | (with_reducible assumption) | assumption)
              obtain ⟨ad191, e191, hx191_0⟩ := Kd.at_string (Kd.R_reads' HO_11.out).2.2 x12_2 p191 q191
              obtain rfl : ad190 = ad191 := (by injection e191)
              replace p191 := eq_true p191
              replace q191 := eq_true q191
              go_wp2
              go_ret
              exact ⟨by first | rfl | (simp [errW_none, errW_some] <;> rfl) | (simp [*, errW_none, errW_some] <;> rfl), by repeat (first | (with_reducible first | exact HB.out | apply below_alloc | apply pw_below_drewN | apply below_drew1) | exact HB.out)⟩
             ·rw [if_neg c27] at H
              have c27b0 : decide (20 < ((rdOf ByteArray.empty y187 x12_2).size : Int)) = false := decide_eq_false c27
              have c27b1 : decide (20 < (rdOf ByteArray.empty y187 x12_2).size) = false := decide_eq_false (by omega)
              clear c27
              have H' := Aside0.mk H
              clear H
              obtain ⟨Ao29, co29, eo29⟩ := Kd.R_slice HO_11.out
              subst eo29
              have p190 : 0 ≤ (x12_2 : Int) := of_decide_eq_true (by first | (with_reducible assumption) | assumption)
              have q190 : x12_2 < (y187.length : Int) := of_decide_eq_true (by first | (with_reducible assumption) | assumption)
              obtain ⟨ad190, e190, hx190_0⟩ := Kd.at_string (Kd.R_reads' HO_11.out).2.2 x12_2 p190 q190
              cases e190
              replace p190 := eq_true p190
              replace q190 := eq_true q190
              have p191 : 0 ≤ (x12_2 : Int) := of_decide_eq_true (by first | (with_reducible assumption) | assumption)
              have q191 : x12_2 < (y187.length : Int) := of_decide_eq_true (by first | (with_reducible assumption) | assumption)
              obtain ⟨ad191, e191, hx191_0⟩ := Kd.at_string (Kd.R_reads' HO_11.out).2.2 x12_2 p191 q191
              obtain rfl : ad190 = ad191 := (by injection e191)
              replace p191 := eq_true p191
              replace q191 := eq_true q191
              go_wp2
              go_roundg k2
              case measure => have := HJ5.out; have := HK2.out; omega
              case rel => exact ⟨(wrap64 (x12_2 + 1)), (by first | rfl | (simp; done) | (simp [*]; done)), H', ⟨by have := HJ5.out; have := HK2.out; omega⟩, ⟨by (with_reducible repeat (first | apply Kd.R_alloc | apply Kd.R_drewN | apply Kd.R_drew)); exact HO_11.out⟩, ⟨by repeat (first | (with_reducible first | exact HB.out | apply below_alloc | apply pw_below_drewN | apply below_drew1) | exact HB.out)⟩⟩
           ·rw [if_neg c24] at H
            exact absurd H (by simp)
          ·rw [if_neg c23] at H
           have c23b0 : decide (x12_2 < (y187.length : Int)) = false := decide_eq_false c23
           clear c23
           replace H := Option.bind_eq_some_iff.mp H
           obtain ⟨t192, A300, H⟩ := H
           replace H : ((sidinglaw18_joined.f l1 (⟨#[98, 101, 116, 119, 101, 101, 110]⟩ : ByteArray) l2).bind fun t195 => ((sidinglaw18_joined.f l0 (⟨#[98, 101, 116, 119, 101, 101, 110]⟩ : ByteArray) l3).bind fun t198 => ((sidinglaw18_joined.f l1 (⟨#[98, 101, 116, 119, 101, 101, 110]⟩ : ByteArray) l3).bind fun t201 => ((sidinglaw18_fit.f k2 t192 t195 t198).bind fun t204 => (if t204 = true then ((sidingref13_Lines.f k2 t201).bind fun t205 => (if t205 = 0 then ((sidinglaw18_single.f k2 t192 t195 t198).bind fun t206 => (if t206 = true then (if t174 = true then ((sidinglaw18_gives.f k2 t192 t195 t198 t201).bind fun t207 => (some t207)) else (some false)) else (some t174))) else (some t174))) else (some t174)))))) = some r := H
           have A30 := Aside0.mk A300
           clear A300
           replace H := Option.bind_eq_some_iff.mp H
           obtain ⟨t195, A310, H⟩ := H
           replace H : ((sidinglaw18_joined.f l0 (⟨#[98, 101, 116, 119, 101, 101, 110]⟩ : ByteArray) l3).bind fun t198 => ((sidinglaw18_joined.f l1 (⟨#[98, 101, 116, 119, 101, 101, 110]⟩ : ByteArray) l3).bind fun t201 => ((sidinglaw18_fit.f k2 t192 t195 t198).bind fun t204 => (if t204 = true then ((sidingref13_Lines.f k2 t201).bind fun t205 => (if t205 = 0 then ((sidinglaw18_single.f k2 t192 t195 t198).bind fun t206 => (if t206 = true then (if t174 = true then ((sidinglaw18_gives.f k2 t192 t195 t198 t201).bind fun t207 => (some t207)) else (some false)) else (some t174))) else (some t174))) else (some t174))))) = some r := H
           have A31 := Aside0.mk A310
           (try have sameA31 := (Option.some.inj (A30.out.symm.trans A31.out) : t192 = t195))
           clear A310
           replace H := Option.bind_eq_some_iff.mp H
           obtain ⟨t198, A320, H⟩ := H
           replace H : ((sidinglaw18_joined.f l1 (⟨#[98, 101, 116, 119, 101, 101, 110]⟩ : ByteArray) l3).bind fun t201 => ((sidinglaw18_fit.f k2 t192 t195 t198).bind fun t204 => (if t204 = true then ((sidingref13_Lines.f k2 t201).bind fun t205 => (if t205 = 0 then ((sidinglaw18_single.f k2 t192 t195 t198).bind fun t206 => (if t206 = true then (if t174 = true then ((sidinglaw18_gives.f k2 t192 t195 t198 t201).bind fun t207 => (some t207)) else (some false)) else (some t174))) else (some t174))) else (some t174)))) = some r := H
           have A32 := Aside0.mk A320
           (try have sameA32 := (Option.some.inj (A31.out.symm.trans A32.out) : t195 = t198))
           clear A320
           replace H := Option.bind_eq_some_iff.mp H
           obtain ⟨t201, A330, H⟩ := H
           replace H : ((sidinglaw18_fit.f k2 t192 t195 t198).bind fun t204 => (if t204 = true then ((sidingref13_Lines.f k2 t201).bind fun t205 => (if t205 = 0 then ((sidinglaw18_single.f k2 t192 t195 t198).bind fun t206 => (if t206 = true then (if t174 = true then ((sidinglaw18_gives.f k2 t192 t195 t198 t201).bind fun t207 => (some t207)) else (some false)) else (some t174))) else (some t174))) else (some t174))) = some r := H
           have A33 := Aside0.mk A330
           (try have sameA33 := (Option.some.inj (A32.out.symm.trans A33.out) : t198 = t201))
           clear A330
           replace H := Option.bind_eq_some_iff.mp H
           obtain ⟨t204, A340, H⟩ := H
           replace H : (if t204 = true then ((sidingref13_Lines.f k2 t201).bind fun t205 => (if t205 = 0 then ((sidinglaw18_single.f k2 t192 t195 t198).bind fun t206 => (if t206 = true then (if t174 = true then ((sidinglaw18_gives.f k2 t192 t195 t198 t201).bind fun t207 => (some t207)) else (some false)) else (some t174))) else (some t174))) else (some t174)) = some r := H
           have A34 := Aside0.mk A340
           clear A340
           have HHH_ := Aside0.mk H
           clear H
           obtain ⟨q0, rfl⟩ : ∃ W, W = wr := ⟨_, rfl⟩
           have U0 := Aside0.mk (Kd.C_below HR0.out HB.out)
           have U1 := Aside0.mk (Kd.C_below HR1.out HB.out)
           have U2 := Aside0.mk (Kd.C_below HR2.out HB.out)
           have U3 := Aside0.mk (Kd.C_below HR3.out HB.out)
           obtain ⟨Aall_, call_, eall_⟩ := Kd.R_slice HO_11.out
           subst eall_
           clear HO_11
           go_upto_region 13 with (first | (go_at_call 16; (with_reducible refine (sidinglaw18_joined.calls _ _ l0 (⟨#[98, 101, 116, 119, 101, 101, 110]⟩ : ByteArray) _ _ l2 t192 _ (Kd.C_below U0.out (by repeat (first | exact Below.refl _ _ | apply pw_below_drewN | apply below_drew1))) HC0.out (Kd.C_below U2.out (by repeat (first | exact Below.refl _ _ | apply pw_below_drewN | apply below_drew1))) HC2.out A30.out).mono ?_); rintro e_ q1 ⟨v_, rfl, ho, hb⟩; have P1 := Aside0.mk (snc (u := q0) (by repeat (first | exact Below.refl _ _ | apply pw_below_drewN | apply below_drew1)) hb); obtain ⟨X1, x1, rfl, hf⟩ := FF.of ho; have F1 := Aside0.mk hf; clear ho hb hf) | (go_at_call 16; (with_reducible refine (sidinglaw18_joined.calls _ _ l1 (⟨#[98, 101, 116, 119, 101, 101, 110]⟩ : ByteArray) _ _ l2 t195 _ (Kd.C_below U1.out (snc P1.out (by repeat (first | exact Below.refl _ _ | apply pw_below_drewN | apply below_drew1)))) HC1.out (Kd.C_below U2.out (snc P1.out (by repeat (first | exact Below.refl _ _ | apply pw_below_drewN | apply below_drew1)))) HC2.out A31.out).mono ?_); rintro e_ q2 ⟨v_, rfl, ho, hb⟩; have P2 := Aside0.mk (snc (u := q1) (by repeat (first | exact Below.refl _ _ | apply pw_below_drewN | apply below_drew1)) hb); obtain ⟨X2, x2, rfl, hf⟩ := FF.of ho; have F2 := Aside0.mk hf; clear ho hb hf) | (go_at_call 16; (with_reducible refine (sidinglaw18_joined.calls _ _ l0 (⟨#[98, 101, 116, 119, 101, 101, 110]⟩ : ByteArray) _ _ l3 t198 _ (Kd.C_below U0.out (snc (snc P1.out P2.out) (by repeat (first | exact Below.refl _ _ | apply pw_below_drewN | apply below_drew1)))) HC0.out (Kd.C_below U3.out (snc (snc P1.out P2.out) (by repeat (first | exact Below.refl _ _ | apply pw_below_drewN | apply below_drew1)))) HC3.out A32.out).mono ?_); rintro e_ q3 ⟨v_, rfl, ho, hb⟩; have P3 := Aside0.mk (snc (u := q2) (by repeat (first | exact Below.refl _ _ | apply pw_below_drewN | apply below_drew1)) hb); obtain ⟨X3, x3, rfl, hf⟩ := FF.of ho; have F3 := Aside0.mk hf; clear ho hb hf) | (go_at_call 16; (with_reducible refine (sidinglaw18_joined.calls _ _ l1 (⟨#[98, 101, 116, 119, 101, 101, 110]⟩ : ByteArray) _ _ l3 t201 _ (Kd.C_below U1.out (snc (snc P1.out (snc P2.out P3.out)) (by repeat (first | exact Below.refl _ _ | apply pw_below_drewN | apply below_drew1)))) HC1.out (Kd.C_below U3.out (snc (snc P1.out (snc P2.out P3.out)) (by repeat (first | exact Below.refl _ _ | apply pw_below_drewN | apply below_drew1)))) HC3.out A33.out).mono ?_); rintro e_ q4 ⟨v_, rfl, ho, hb⟩; have P4 := Aside0.mk (snc (u := q3) (by repeat (first | exact Below.refl _ _ | apply pw_below_drewN | apply below_drew1)) hb); obtain ⟨X4, x4, rfl, hf⟩ := FF.of ho; have F4 := Aside0.mk hf; clear ho hb hf))
           have H := HHH_.out
           clear HHH_
           by_cases c35 : t204 = true
           ·subst c35
            have H1 : ((sidingref13_Lines.f k2 t201).bind fun t205 => (if t205 = 0 then ((sidinglaw18_single.f k2 t192 t195 t198).bind fun t206 => (if t206 = true then (if t174 = true then ((sidinglaw18_gives.f k2 t192 t195 t198 t201).bind fun t207 => (some t207)) else (some false)) else (some t174))) else (some t174))) = some r := by rw [if_pos rfl] at H; exact H
            clear H
            have H := H1
            clear H1
            replace H := Option.bind_eq_some_iff.mp H
            obtain ⟨t205, A360, H⟩ := H
            replace H : (if t205 = 0 then ((sidinglaw18_single.f k2 t192 t195 t198).bind fun t206 => (if t206 = true then (if t174 = true then ((sidinglaw18_gives.f k2 t192 t195 t198 t201).bind fun t207 => (some t207)) else (some false)) else (some t174))) else (some t174)) = some r := H
            have A36 := Aside0.mk A360
            clear A360
            by_cases c37 : t205 = 0
            ·rw [if_pos c37] at H
             have c37b0 : (t205 == 0) = true := beq_iff_eq.mpr c37
             have c37b1 : (t205 != 0) = false := bne_eq_false_iff_eq.mpr c37
             clear c37
             replace H := Option.bind_eq_some_iff.mp H
             obtain ⟨t206, A380, H⟩ := H
             replace H : (if t206 = true then (if t174 = true then ((sidinglaw18_gives.f k2 t192 t195 t198 t201).bind fun t207 => (some t207)) else (some false)) else (some t174)) = some r := H
             have A38 := Aside0.mk A380
             clear A380
             by_cases c39 : t206 = true
             ·subst c39
              have H1 : (if t174 = true then ((sidinglaw18_gives.f k2 t192 t195 t198 t201).bind fun t207 => (some t207)) else (some false)) = some r := by rw [if_pos rfl] at H; exact H
              clear H
              have H := H1
              clear H1
              by_cases c40 : t174 = true
              ·subst c40
               have H1 : ((sidinglaw18_gives.f k2 t192 t195 t198 t201).bind fun t207 => (some t207)) = some r := by rw [if_pos rfl] at H; exact H
               clear H
               have H := H1
               clear H1
               replace H := Option.bind_eq_some_iff.mp H
               obtain ⟨t207, A410, H⟩ := H
               replace H : (some t207) = some r := H
               have A41 := Aside0.mk A410
               clear A410
               obtain rfl := Option.some.inj H
               go_wp2_with (first | (go_at_call 14; (with_reducible refine (sidinglaw18_fit.calls k2 _ _ t192 _ _ t195 _ _ t198 true _ (F1.out.up (snc (snc P2.out (snc P3.out P4.out)) (by repeat (first | exact Below.refl _ _ | apply pw_below_drewN | apply below_drew1)))).C F1.out.1 (F2.out.up (snc (snc P3.out P4.out) (by repeat (first | exact Below.refl _ _ | apply pw_below_drewN | apply below_drew1)))).C F2.out.1 (F3.out.up (snc P4.out (by repeat (first | exact Below.refl _ _ | apply pw_below_drewN | apply below_drew1)))).C F3.out.1 A34.out).mono ?_); rintro e_ q5 ⟨rfl, hb⟩; have P5 := Aside0.mk (snc (u := q4) (by repeat (first | exact Below.refl _ _ | apply pw_below_drewN | apply below_drew1)) hb); clear hb) | (go_at_call 17; (with_reducible refine (sidingref13_Lines.calls k2 _ _ t201 t205 _ (F4.out.up (snc P5.out (by repeat (first | exact Below.refl _ _ | apply pw_below_drewN | apply below_drew1)))).C F4.out.1 A36.out).mono ?_); rintro e_ q6 ⟨rfl, hb⟩; have P6 := Aside0.mk (snc (u := q5) (by repeat (first | exact Below.refl _ _ | apply pw_below_drewN | apply below_drew1)) hb); clear hb) | (go_at_call 18; (with_reducible refine (sidinglaw18_single.calls k2 _ _ t192 _ _ t195 _ _ t198 true _ (F1.out.up (snc (snc P2.out (snc P3.out (snc P4.out (snc P5.out P6.out)))) (by repeat (first | exact Below.refl _ _ | apply pw_below_drewN | apply below_drew1)))).C F1.out.1 (F2.out.up (snc (snc P3.out (snc P4.out (snc P5.out P6.out))) (by repeat (first | exact Below.refl _ _ | apply pw_below_drewN | apply below_drew1)))).C F2.out.1 (F3.out.up (snc (snc P4.out (snc P5.out P6.out)) (by repeat (first | exact Below.refl _ _ | apply pw_below_drewN | apply below_drew1)))).C F3.out.1 A38.out).mono ?_); rintro e_ q7 ⟨rfl, hb⟩; have P7 := Aside0.mk (snc (u := q6) (by repeat (first | exact Below.refl _ _ | apply pw_below_drewN | apply below_drew1)) hb); clear hb) | (go_at_call 19; (with_reducible refine (sidinglaw18_gives.calls k2 _ _ t192 _ _ t195 _ _ t198 _ _ t201 t207 _ (F1.out.up (snc (snc P2.out (snc P3.out (snc P4.out (snc P5.out (snc P6.out P7.out))))) (by repeat (first | exact Below.refl _ _ | apply pw_below_drewN | apply below_drew1)))).C F1.out.1 (F2.out.up (snc (snc P3.out (snc P4.out (snc P5.out (snc P6.out P7.out)))) (by repeat (first | exact Below.refl _ _ | apply pw_below_drewN | apply below_drew1)))).C F2.out.1 (F3.out.up (snc (snc P4.out (snc P5.out (snc P6.out P7.out))) (by repeat (first | exact Below.refl _ _ | apply pw_below_drewN | apply below_drew1)))).C F3.out.1 (F4.out.up (snc (snc P5.out (snc P6.out P7.out)) (by repeat (first | exact Below.refl _ _ | apply pw_below_drewN | apply below_drew1)))).C F4.out.1 A41.out hr_).mono ?_); rintro e_ q8 ⟨rfl, hb⟩; have P8 := Aside0.mk (snc (u := q7) (by repeat (first | exact Below.refl _ _ | apply pw_below_drewN | apply below_drew1)) hb); clear hb))
               go_ret
               exact ⟨by first | rfl | (simp; done), Below.trans HB.out (Below.mono (show Below q0.heap.size q0 _ from (snc (snc P1.out (snc P2.out (snc P3.out (snc P4.out (snc P5.out (snc P6.out (snc P7.out P8.out))))))) (by repeat (first | exact Below.refl _ _ | apply pw_below_drewN | apply below_drew1)))) (Below.size HB.out))⟩
              ·replace c40 := Bool.eq_false_iff.mpr c40
               subst c40
               have H1 : (some false) = some r := by rw [if_neg (show ¬ (false = true) by decide)] at H; exact H
               clear H
               have H := H1
               clear H1
               exact absurd ((Option.some.inj H).trans hr_.out) (by decide)
             ·replace c39 := Bool.eq_false_iff.mpr c39
              subst c39
              have H1 : (some t174) = some r := by rw [if_neg (show ¬ (false = true) by decide)] at H; exact H
              clear H
              have H := H1
              clear H1
              obtain rfl := Option.some.inj H
              go_wp2_with (first | (go_at_call 14; (with_reducible refine (sidinglaw18_fit.calls k2 _ _ t192 _ _ t195 _ _ t198 true _ (F1.out.up (snc (snc P2.out (snc P3.out P4.out)) (by repeat (first | exact Below.refl _ _ | apply pw_below_drewN | apply below_drew1)))).C F1.out.1 (F2.out.up (snc (snc P3.out P4.out) (by repeat (first | exact Below.refl _ _ | apply pw_below_drewN | apply below_drew1)))).C F2.out.1 (F3.out.up (snc P4.out (by repeat (first | exact Below.refl _ _ | apply pw_below_drewN | apply below_drew1)))).C F3.out.1 A34.out).mono ?_); rintro e_ q5 ⟨rfl, hb⟩; have P5 := Aside0.mk (snc (u := q4) (by repeat (first | exact Below.refl _ _ | apply pw_below_drewN | apply below_drew1)) hb); clear hb) | (go_at_call 17; (with_reducible refine (sidingref13_Lines.calls k2 _ _ t201 t205 _ (F4.out.up (snc P5.out (by repeat (first | exact Below.refl _ _ | apply pw_below_drewN | apply below_drew1)))).C F4.out.1 A36.out).mono ?_); rintro e_ q6 ⟨rfl, hb⟩; have P6 := Aside0.mk (snc (u := q5) (by repeat (first | exact Below.refl _ _ | apply pw_below_drewN | apply below_drew1)) hb); clear hb) | (go_at_call 18; (with_reducible refine (sidinglaw18_single.calls k2 _ _ t192 _ _ t195 _ _ t198 false _ (F1.out.up (snc (snc P2.out (snc P3.out (snc P4.out (snc P5.out P6.out)))) (by repeat (first | exact Below.refl _ _ | apply pw_below_drewN | apply below_drew1)))).C F1.out.1 (F2.out.up (snc (snc P3.out (snc P4.out (snc P5.out P6.out))) (by repeat (first | exact Below.refl _ _ | apply pw_below_drewN | apply below_drew1)))).C F2.out.1 (F3.out.up (snc (snc P4.out (snc P5.out P6.out)) (by repeat (first | exact Below.refl _ _ | apply pw_below_drewN | apply below_drew1)))).C F3.out.1 A38.out).mono ?_); rintro e_ q7 ⟨rfl, hb⟩; have P7 := Aside0.mk (snc (u := q6) (by repeat (first | exact Below.refl _ _ | apply pw_below_drewN | apply below_drew1)) hb); clear hb))
              go_ret
              exact ⟨by first | rfl | (simp; done), Below.trans HB.out (Below.mono (show Below q0.heap.size q0 _ from (snc (snc P1.out (snc P2.out (snc P3.out (snc P4.out (snc P5.out (snc P6.out P7.out)))))) (by repeat (first | exact Below.refl _ _ | apply pw_below_drewN | apply below_drew1)))) (Below.size HB.out))⟩
            ·rw [if_neg c37] at H
             have c37b0 : (t205 == 0) = false := beq_eq_false_iff_ne.mpr c37
             have c37b1 : (t205 != 0) = true := bne_iff_ne.mpr c37
             obtain rfl := Option.some.inj H
             go_wp2_with (first | (go_at_call 14; (with_reducible refine (sidinglaw18_fit.calls k2 _ _ t192 _ _ t195 _ _ t198 true _ (F1.out.up (snc (snc P2.out (snc P3.out P4.out)) (by repeat (first | exact Below.refl _ _ | apply pw_below_drewN | apply below_drew1)))).C F1.out.1 (F2.out.up (snc (snc P3.out P4.out) (by repeat (first | exact Below.refl _ _ | apply pw_below_drewN | apply below_drew1)))).C F2.out.1 (F3.out.up (snc P4.out (by repeat (first | exact Below.refl _ _ | apply pw_below_drewN | apply below_drew1)))).C F3.out.1 A34.out).mono ?_); rintro e_ q5 ⟨rfl, hb⟩; have P5 := Aside0.mk (snc (u := q4) (by repeat (first | exact Below.refl _ _ | apply pw_below_drewN | apply below_drew1)) hb); clear hb) | (go_at_call 17; (with_reducible refine (sidingref13_Lines.calls k2 _ _ t201 t205 _ (F4.out.up (snc P5.out (by repeat (first | exact Below.refl _ _ | apply pw_below_drewN | apply below_drew1)))).C F4.out.1 A36.out).mono ?_); rintro e_ q6 ⟨rfl, hb⟩; have P6 := Aside0.mk (snc (u := q5) (by repeat (first | exact Below.refl _ _ | apply pw_below_drewN | apply below_drew1)) hb); clear hb))
             go_ret
             exact ⟨by first | rfl | (simp; done), Below.trans HB.out (Below.mono (show Below q0.heap.size q0 _ from (snc (snc P1.out (snc P2.out (snc P3.out (snc P4.out (snc P5.out P6.out))))) (by repeat (first | exact Below.refl _ _ | apply pw_below_drewN | apply below_drew1)))) (Below.size HB.out))⟩
           ·replace c35 := Bool.eq_false_iff.mpr c35
            subst c35
            have H1 : (some t174) = some r := by rw [if_neg (show ¬ (false = true) by decide)] at H; exact H
            clear H
            have H := H1
            clear H1
            obtain rfl := Option.some.inj H
            go_wp2_with (first | (go_at_call 14; (with_reducible refine (sidinglaw18_fit.calls k2 _ _ t192 _ _ t195 _ _ t198 false _ (F1.out.up (snc (snc P2.out (snc P3.out P4.out)) (by repeat (first | exact Below.refl _ _ | apply pw_below_drewN | apply below_drew1)))).C F1.out.1 (F2.out.up (snc (snc P3.out P4.out) (by repeat (first | exact Below.refl _ _ | apply pw_below_drewN | apply below_drew1)))).C F2.out.1 (F3.out.up (snc P4.out (by repeat (first | exact Below.refl _ _ | apply pw_below_drewN | apply below_drew1)))).C F3.out.1 A34.out).mono ?_); rintro e_ q5 ⟨rfl, hb⟩; have P5 := Aside0.mk (snc (u := q4) (by repeat (first | exact Below.refl _ _ | apply pw_below_drewN | apply below_drew1)) hb); clear hb))
            go_ret
            exact ⟨by first | rfl | (simp; done), Below.trans HB.out (Below.mono (show Below q0.heap.size q0 _ from (snc (snc P1.out (snc P2.out (snc P3.out (snc P4.out P5.out)))) (by repeat (first | exact Below.refl _ _ | apply pw_below_drewN | apply below_drew1)))) (Below.size HB.out))⟩
       ·rw [if_neg c16] at H
        exact absurd H (by simp)
      ·rw [if_neg c15] at H
       exact absurd H (by simp)
     ·rw [if_neg c14] at H
      exact absurd H (by simp)
    ·rw [if_neg c13] at H
     exact absurd H (by simp)
def sidinglaw18_MergeApart.Pure : Prop := ∀ (l0 : List ByteArray) (l1 : List ByteArray) (l2 : List ByteArray) (l3 : List ByteArray), (l0.length * 16 ≤ 140737488351232 ∧ ∀ x0_ ∈ l0, x0_.size ≤ 140737488351232) → (l1.length * 16 ≤ 140737488351232 ∧ ∀ x0_ ∈ l1, x0_.size ≤ 140737488351232) → (l2.length * 16 ≤ 140737488351232 ∧ ∀ x0_ ∈ l2, x0_.size ≤ 140737488351232) → (l3.length * 16 ≤ 140737488351232 ∧ ∀ x0_ ∈ l3, x0_.size ≤ 140737488351232) → ∃ k, sidinglaw18_MergeApart.f k l0 l1 l2 l3 = some true
theorem sidinglaw18_MergeApart.walk (P : sidinglaw18_MergeApart.Pure) (A0 : Option Addr) (c0 : Nat) (l0 : List ByteArray) (A1 : Option Addr) (c1 : Nat) (l1 : List ByteArray) (A2 : Option Addr) (c2 : Nat) (l2 : List ByteArray) (A3 : Option Addr) (c3 : Nat) (l3 : List ByteArray) (w : World) (hr0 : Kd.C Kd.string w A0 l0.length l0) (hc0 : l0.length ≤ c0) (hr1 : Kd.C Kd.string w A1 l1.length l1) (hc1 : l1.length ≤ c1) (hr2 : Kd.C Kd.string w A2 l2.length l2) (hc2 : l2.length ≤ c2) (hr3 : Kd.C Kd.string w A3 l3.length l3) (hc3 : l3.length ≤ c3) (hw0 : l0.length * 16 ≤ 140737488351232 ∧ ∀ x0_ ∈ l0, x0_.size ≤ 140737488351232) (hw1 : l1.length * 16 ≤ 140737488351232 ∧ ∀ x0_ ∈ l1, x0_.size ≤ 140737488351232) (hw2 : l2.length * 16 ≤ 140737488351232 ∧ ∀ x0_ ∈ l2, x0_.size ≤ 140737488351232) (hw3 : l3.length * 16 ≤ 140737488351232 ∧ ∀ x0_ ∈ l3, x0_.size ≤ 140737488351232) :
  Calls Try.prog 5 #[.slice A0 l0.length c0, .slice A1 l1.length c1, .slice A2 l2.length c2, .slice A3 l3.length c3] w fun e w' => e = .returned (.bool true) ∧ Below w.heap.size w w' := by
 obtain ⟨k, h⟩ := P l0 l1 l2 l3 hw0 hw1 hw2 hw3
 refine (sidinglaw18_MergeApart.calls k A0 c0 l0 A1 c1 l1 A2 c2 l2 A3 c3 l3 true w hr0 hc0 hr1 hc1 hr2 hc2 hr3 hc3 h ⟨rfl⟩).mono ?_
 rintro e w' ⟨rfl, hd⟩
 exact ⟨rfl, hd⟩
end Go.Proofs.Ytahpbpacjciddaa.Pr
end
section
namespace Go.Proofs.Ytahpbpacjciddaa.Pr
open Go.RowKit Go.Proofs.YtahpbpacjciddaaW.PrintWords Go.Proofs.YtahpbpacjciddaaW.PrintLast Go.Proofs.YtahpbpacjciddaaW.PrintMore
def pieceL (a b : List ByteArray) (i k p q : Nat) : List S82 := if i < p ∨ k < q then [⟨(i : Int), (a.take p).drop i, (b.take q).drop k⟩] else []
def diffL (a b : List ByteArray) : Nat → Nat → List (Nat × Nat) → List S82
 | i, k, [] => pieceL a b i k a.length b.length
 | i, k, p :: m => pieceL a b i k p.1 p.2 ++ diffL a b (p.1 + 1) (p.2 + 1) m
theorem diffL_nil (a b : List ByteArray) (i k : Nat) : diffL a b i k [] = pieceL a b i k a.length b.length := rfl
theorem diffL_cons (a b : List ByteArray) (i k : Nat) (p : Nat × Nat) (m : List (Nat × Nat)) : diffL a b i k (p :: m) = pieceL a b i k p.1 p.2 ++ diffL a b (p.1 + 1) (p.2 + 1) m := rfl
theorem pieceL_pos {a b : List ByteArray} {i k p q : Nat} (h : i < p ∨ k < q) : pieceL a b i k p q = [⟨(i : Int), (a.take p).drop i, (b.take q).drop k⟩] := if_pos h
theorem pieceL_neg {a b : List ByteArray} {i k p q : Nat} (h : ¬ (i < p ∨ k < q)) : pieceL a b i k p q = [] := if_neg h
theorem seg_join (a : List ByteArray) {x y z : Nat} (hxy : x ≤ y) (hyz : y ≤ z) : (a.take y).drop x ++ (a.take z).drop y = (a.take z).drop x := by
 rw [List.drop_take, List.drop_take, List.drop_take]
 rw [show z - x = (y - x) + (z - y) by omega, List.take_add]
 congr 1
 rw [List.drop_drop]
 congr 2
 omega
def pt : List (Nat × Nat) → Nat → Option Nat
 | [], _ => none
 | p :: m, i => if p.1 = i then some p.2 else pt m i
theorem pt_lt {a b : List ByteArray} {i k : Nat} {m : List (Nat × Nat)} (h : Match a b i k m) : ∀ j, j < i → pt m j = none := by
 induction h with
 | nil => exact fun _ _ => rfl
 | cons i k p m h1 h2 h3 h4 he hm ih =>
  intro j hj
  unfold pt
  rw [if_neg (by omega)]
  exact ih j (by omega)
theorem pt_some {a b : List ByteArray} {i k : Nat} {m : List (Nat × Nat)} (h : Match a b i k m) : ∀ {j u}, pt m j = some u → i ≤ j ∧ k ≤ u ∧ ∃ (h1 : j < a.length) (h2 : u < b.length), a[j] = b[u] := by
 induction h with
 | nil => intro j u h; cases h
 | cons i k p m h1 h2 h3 h4 he hm ih =>
  intro j u h
  unfold pt at h
  by_cases e : p.1 = j
  ·rw [if_pos e] at h
   obtain rfl := Option.some.inj h
   subst e
   exact ⟨h1, h2, h3, h4, he⟩
  ·rw [if_neg e] at h
   have := ih h
   exact ⟨by omega, by omega, this.2.2⟩
theorem pt_mono {a b : List ByteArray} {i k : Nat} {m : List (Nat × Nat)} (h : Match a b i k m) : ∀ {j l u v}, pt m j = some u → pt m l = some v → j < l → u < v := by
 induction h with
 | nil => intro j l u v h; cases h
 | cons i k p m h1 h2 h3 h4 he hm ih =>
  intro j l u v hj hl hjl
  unfold pt at hj hl
  by_cases e : p.1 = j
  ·rw [if_pos e] at hj
   obtain rfl := Option.some.inj hj
   rw [if_neg (by omega)] at hl
   have := pt_some hm hl
   omega
  ·rw [if_neg e] at hj
   by_cases e2 : p.1 = l
   ·have := pt_some hm hj
    omega
   ·rw [if_neg e2] at hl
    exact ih hj hl hjl
def befAt (n nb : Nat) : Nat → Nat → List (Nat × Nat) → Nat → Bool
 | i, k, [], j => decide (j = i ∧ i = n ∧ k < nb)
 | i, k, p :: m, j => decide (j = i ∧ i = p.1 ∧ k < p.2) || befAt n nb (p.1 + 1) (p.2 + 1) m j
theorem befAt_lt {a b : List ByteArray} {i k : Nat} {m : List (Nat × Nat)} (n nb : Nat) (h : Match a b i k m) : ∀ j, j < i → befAt n nb i k m j = false := by
 induction h with
 | nil i k => exact fun j hj => decide_eq_false (by omega)
 | cons i k p m h1 h2 h3 h4 he hm ih =>
  intro j hj
  unfold befAt
  rw [decide_eq_false (by omega), ih j (by omega)]
  rfl
theorem befAt_next {a b : List ByteArray} {i k : Nat} {m : List (Nat × Nat)} (h : Match a b i k m) : ∀ {j u}, pt m j = some u → befAt a.length b.length i k m (j + 1) = match pt m (j + 1) with
  | some v => decide (u + 1 < v)
  | none => decide (j + 1 = a.length ∧ u + 1 < b.length) := by
 induction h with
 | nil i k => intro j u h; cases h
 | cons i k p m h1 h2 h3 h4 he hm ih =>
  intro j u hj
  unfold pt at hj
  by_cases e : p.1 = j
  ·rw [if_pos e] at hj
   obtain rfl := Option.some.inj hj
   subst e
   unfold befAt
   rw [decide_eq_false (by omega), Bool.false_or]
   have e2 : pt (p :: m) (p.1 + 1) = pt m (p.1 + 1) := by
    rw [pt, if_neg (by omega)]
   rw [e2]
   cases hm with
   | nil => simp [befAt, pt]
   | cons _ _ q m' g1 g2 g3 g4 ge gm =>
    unfold befAt pt
    rw [befAt_lt _ _ gm _ (by omega), Bool.or_false]
    by_cases e3 : q.1 = p.1 + 1
    ·rw [if_pos e3]
     simp only [Bool.decide_and, e3, decide_true, Bool.true_and]
    ·rw [if_neg e3, pt_lt gm _ (by omega)]
     simp only
     rw [decide_eq_false (by omega), decide_eq_false (by omega)]
  ·rw [if_neg e] at hj
   have hq := pt_some hm hj
   unfold befAt
   rw [decide_eq_false (by omega), Bool.false_or, ih hj]
   have e2 : pt (p :: m) (j + 1) = pt m (j + 1) := by
    rw [pt, if_neg (by omega)]
   rw [e2]
def partL (base : List ByteArray) (fr tt : Nat) : List S82 → List ByteArray → Nat → List ByteArray
 | [], out, at_ => out ++ (base.take tt).drop at_
 | h :: l, out, at_ => if h.f0 < (fr : Int) ∨ (tt : Int) < h.f0 + (h.f1.length : Int) then partL base fr tt l out at_
  else partL base fr tt l (out ++ (base.take h.f0.toNat).drop at_ ++ h.f2) (h.f0.toNat + h.f1.length)
theorem partL_skip (base : List ByteArray) (fr tt : Nat) (l : List S82) : ∀ (s : List S82) (out : List ByteArray) (at_ : Nat), (∀ h ∈ s, h.f0 < (fr : Int) ∨ (tt : Int) < h.f0 + (h.f1.length : Int)) → partL base fr tt (s ++ l) out at_ = partL base fr tt l out at_
 | [], _, _, _ => rfl
 | h :: s, out, at_, hs => by
  rw [List.cons_append, partL, if_pos (hs h List.mem_cons_self)]
  exact partL_skip base fr tt l s out at_ (fun x hx => hs x (List.mem_cons_of_mem _ hx))
theorem pieceL_mem {a b : List ByteArray} {i k p q : Nat} {h : S82} (hh : h ∈ pieceL a b i k p q) (hp : p ≤ a.length) (hip : i ≤ p) : h.f0 = (i : Int) ∧ (h.f1.length : Int) = (p : Int) - (i : Int) := by
 unfold pieceL at hh
 split at hh
 ·obtain rfl := List.mem_singleton.1 hh
  refine ⟨rfl, ?_⟩
  show (((a.take p).drop i).length : Int) = _
  rw [List.length_drop, List.length_take]
  omega
 ·cases hh
theorem diffL_far {a b : List ByteArray} {i k : Nat} {m : List (Nat × Nat)} (h : Match a b i k m) : i ≤ a.length → ∀ x ∈ diffL a b i k m, (i : Int) ≤ x.f0 := by
 induction h with
 | nil i k =>
  intro hi x hx
  have := pieceL_mem hx (Nat.le_refl _) hi
  omega
 | cons i k p m h1 h2 h3 h4 he hm ih =>
  intro hi x hx
  rw [diffL_cons] at hx
  rcases List.mem_append.1 hx with hx | hx
  ·have := pieceL_mem hx (by omega) h1
   omega
  ·have := ih (by omega) x hx
   omega
theorem partL_behind {a b : List ByteArray} {i k : Nat} {m : List (Nat × Nat)} (h : Match a b i k m) (hi : i ≤ a.length) (fr tt : Nat) (ht : tt < i) (out : List ByteArray) (at_ : Nat) : partL a fr tt (diffL a b i k m) out at_ = out ++ (a.take tt).drop at_ := by
 have := partL_skip a fr tt [] (diffL a b i k m) out at_ (fun x hx => by
  have := diffL_far h hi x hx
  omega)
 rwa [List.append_nil] at this
theorem piece_in (a b : List ByteArray) {fr tt i k p q : Nat} (hf : fr ≤ i) (hip : i ≤ p) (hkq : k ≤ q) (hpt : p ≤ tt) (hp : p ≤ a.length) (l : List S82) (out : List ByteArray) (at_ : Nat) (hat : at_ ≤ i) :
  ∃ out' at', partL a fr tt (pieceL a b i k p q ++ l) out at_ = partL a fr tt l out' at' ∧ at' ≤ p ∧ out' ++ (a.take p).drop at' = out ++ (a.take i).drop at_ ++ (b.take q).drop k := by
 by_cases h : i < p ∨ k < q
 ·rw [pieceL_pos h, List.singleton_append, partL]
  have hl : ((a.take p).drop i).length = p - i := by rw [List.length_drop, List.length_take]; omega
  refine ⟨out ++ (a.take i).drop at_ ++ (b.take q).drop k, p, ?_, Nat.le_refl _, ?_⟩
  ·rw [if_neg (by simp only [hl]; omega)]
   simp only [hl, Int.toNat_natCast]
   rw [show i + (p - i) = p by omega]
  ·rw [show (a.take p).drop p = [] from List.drop_eq_nil_of_le (by rw [List.length_take]; omega), List.append_nil]
 ·rw [pieceL_neg h, List.nil_append]
  obtain rfl : i = p := by omega
  obtain rfl : k = q := by omega
  refine ⟨out, at_, rfl, hat, ?_⟩
  rw [show (b.take k).drop k = [] from List.drop_eq_nil_of_le (by rw [List.length_take]; omega), List.append_nil]
theorem take_one_drop (a : List ByteArray) (p : Nat) (h : p < a.length) : (a.take (p + 1)).drop p = [a[p]] := by
 rw [List.drop_take, show p + 1 - p = 1 by omega, List.drop_eq_getElem_cons h]
 rfl
theorem partL_within {a b : List ByteArray} (fr tt q p0 : Nat) {i k : Nat} {m : List (Nat × Nat)} (h : Match a b i k m) : fr ≤ i → i ≤ tt → tt ≤ a.length → k ≤ b.length → (pt m tt = some q ∨ tt = a.length ∧ q = b.length) → p0 ≤ k →
  ∀ (out : List ByteArray) (at_ : Nat), at_ ≤ i → out ++ (a.take i).drop at_ = (b.take k).drop p0 → partL a fr tt (diffL a b i k m) out at_ = (b.take q).drop p0 := by
 induction h with
 | nil i k =>
  intro hf hit hta hkb hq hp0 out at_ hat hinv
  rcases hq with hq | ⟨rfl, rfl⟩
  ·cases hq
  ·obtain ⟨out', at', h1, h2, h3⟩ := piece_in a b (tt := a.length) hf hit hkb (Nat.le_refl _) (Nat.le_refl _) [] out at_ hat
   rw [List.append_nil] at h1
   rw [diffL_nil, h1, partL, h3, hinv]
   exact seg_join b hp0 hkb
 | cons i k p m g1 g2 g3 g4 ge hm ih =>
  intro hf hit hta hkb hq hp0 out at_ hat hinv
  rw [diffL_cons]
  by_cases hpt : p.1 < tt
  ·obtain ⟨out', at', h1, h2, h3⟩ := piece_in a b (tt := tt) hf g1 g2 (by omega) (by omega) (diffL a b (p.1 + 1) (p.2 + 1) m) out at_ hat
   rw [h1]
   refine ih (by omega) (by omega) hta (by omega) ?_ (by omega) out' at' (by omega) ?_
   ·rcases hq with hq | hq
    ·rw [pt, if_neg (by omega)] at hq
     exact .inl hq
    ·exact .inr hq
   ·rw [← seg_join a h2 (Nat.le_succ p.1), ← List.append_assoc, h3, hinv, seg_join b hp0 g2, take_one_drop a p.1 g3, ge, ← take_one_drop b p.2 g4, seg_join b (by omega) (Nat.le_succ p.2)]
  ·have hpe : p.1 = tt := by
    rcases hq with hq | ⟨hq, _⟩
    ·by_cases e : p.1 = tt
     ·exact e
     ·rw [pt, if_neg e] at hq
      have := pt_some hm hq
      omega
    ·omega
   have hqe : q = p.2 := by
    rcases hq with hq | ⟨hq, _⟩
    ·rw [pt, if_pos hpe] at hq
     exact (Option.some.inj hq).symm
    ·omega
   obtain ⟨out', at', h1, h2, h3⟩ := piece_in a b (tt := tt) hf g1 g2 (by omega) (by omega) (diffL a b (p.1 + 1) (p.2 + 1) m) out at_ hat
   rw [h1, partL_behind hm (by omega) _ _ (by omega), ← hpe, h3, hinv, hqe]
   exact seg_join b hp0 g2
theorem partL_part {a b : List ByteArray} (fr tt p0 q : Nat) {i k : Nat} {m : List (Nat × Nat)} (h : Match a b i k m) : i ≤ fr → fr ≤ tt → tt ≤ a.length → k ≤ b.length → (pt m tt = some q ∨ tt = a.length ∧ q = b.length) → (i = fr ∧ k = p0 ∨ ∃ f u, fr = f + 1 ∧ p0 = u + 1 ∧ pt m f = some u) →
  partL a fr tt (diffL a b i k m) [] fr = (b.take q).drop p0 := by
 induction h with
 | nil i k =>
  intro hif hft hta hkb hq hp
  rcases hp with ⟨rfl, rfl⟩ | ⟨f, u, _, _, h⟩
  ·refine partL_within i tt q k (.nil i k) (Nat.le_refl _) hft hta hkb hq (Nat.le_refl _) [] i (Nat.le_refl _) ?_
   rw [List.nil_append, List.drop_eq_nil_of_le (by rw [List.length_take]; omega), List.drop_eq_nil_of_le (by rw [List.length_take]; omega)]
  ·cases h
 | cons i k p m g1 g2 g3 g4 ge hm ih =>
  intro hif hft hta hkb hq hp
  rcases hp with ⟨rfl, rfl⟩ | ⟨f, u, rfl, rfl, hf⟩
  ·refine partL_within i tt q k (.cons i k p m g1 g2 g3 g4 ge hm) (Nat.le_refl _) hft hta hkb hq (Nat.le_refl _) [] i (Nat.le_refl _) ?_
   rw [List.nil_append, List.drop_eq_nil_of_le (by rw [List.length_take]; omega), List.drop_eq_nil_of_le (by rw [List.length_take]; omega)]
  ·rw [diffL_cons, partL_skip _ _ _ _ _ _ _ (fun x hx => by
    have := pieceL_mem hx (by omega) g1
    have h2 : p.1 ≤ f := by
     rw [pt] at hf
     split at hf
     ·omega
     ·have := pt_some hm hf
      omega
    omega)]
   have hq2 : pt m tt = some q ∨ tt = a.length ∧ q = b.length := by
    rcases hq with hq | hq
    ·have h2 : p.1 ≤ f := by
      rw [pt] at hf
      split at hf
      ·omega
      ·have := pt_some hm hf
       omega
     rw [pt, if_neg (by omega)] at hq
     exact .inl hq
    ·exact .inr hq
   rw [pt] at hf
   split at hf
   ·rename_i e
    obtain rfl := Option.some.inj hf
    exact ih (by omega) hft hta (by omega) hq2 (.inl ⟨by omega, rfl⟩)
   ·have := pt_some hm hf
    exact ih (by omega) hft hta (by omega) hq2 (.inr ⟨f, u, rfl, rfl, hf⟩)
end Go.Proofs.Ytahpbpacjciddaa.Pr
end
section
namespace Go.Proofs.Ytahpbpacjciddaa.Pr
open Go.RowKit Go.Proofs.YtahpbpacjciddaaW.PrintWords Go.Proofs.YtahpbpacjciddaaW.PrintLast Go.Proofs.YtahpbpacjciddaaW.PrintMore
def pn : Option Nat → Int
 | some u => (u : Int)
 | none => -1
theorem pairsGo_at {a b : List ByteArray} {i k : Nat} {m : List (Nat × Nat)} (h : Match a b i k m) : ∀ (out : List Int) (j : Nat), j < out.length → (pairsGo (m.map prOf) out).getD j 0 = match pt m j with
  | some u => (u : Int)
  | none => out.getD j 0 := by
 induction h with
 | nil => intro out j _; rfl
 | cons i k p m h1 h2 h3 h4 he hm ih =>
  intro out j hj
  rw [List.map_cons, pairsGo, ih _ j (by rw [List.length_set]; exact hj)]
  have e0 : ((prOf p).f0).toNat = p.1 := by simp [prOf]
  have e1 : (prOf p).f1 = (p.2 : Int) := rfl
  rw [e0, e1, pt]
  by_cases e : p.1 = j
  ·rw [if_pos e, pt_lt hm j (by omega)]
   subst e
   simp [hj]
  ·rw [if_neg e]
   cases pt m j with
   | some u => rfl
   | none =>
    simp only
    rw [List.getD_eq_getElem?_getD, List.getElem?_set_ne e, ← List.getD_eq_getElem?_getD]
def pxs (n : Nat) (m : List (Nat × Nat)) : List Int := pairsOf n (m.map prOf)
theorem pxs_length (n : Nat) (m : List (Nat × Nat)) : (pxs n m).length = n := by
 unfold pxs pairsOf
 rw [pairsGo_length, List.length_replicate]
theorem pxs_at {a b : List ByteArray} {m : List (Nat × Nat)} (h : Match a b 0 0 m) (j : Nat) (hj : j < a.length) : (pxs a.length m).getD j 0 = pn (pt m j) := by
 unfold pxs pairsOf
 rw [pairsGo_at h _ j (by rw [List.length_replicate]; exact hj)]
 cases pt m j with
 | some u => rfl
 | none => simp [pn, List.getElem?_replicate, hj]
theorem pxs_fits {a b : List ByteArray} {m : List (Nat × Nat)} (h : Match a b 0 0 m) (hb : b.length ≤ 1000000) : mfits a.length (pxs a.length m) = true := by
 unfold mfits
 rw [Bool.and_eq_true, decide_eq_true_eq]
 refine ⟨pxs_length _ _, List.all_eq_true.2 fun v hv => ?_⟩
 obtain ⟨j, hj, rfl⟩ := List.getElem_of_mem hv
 have hj' : j < a.length := by rw [← pxs_length a.length m]; exact hj
 have h2 := pxs_at h j hj'
 rw [List.getD_eq_getElem?_getD, List.getElem?_eq_getElem hj, Option.getD_some] at h2
 rw [h2]
 cases hp : pt m j with
 | none => simp [pn]
 | some u =>
  obtain ⟨_, _, _, hu, _⟩ := pt_some h hp
  show (decide (-1 ≤ (u : Int)) && decide ((u : Int) ≤ 1000000)) = true
  rw [decide_eq_true (by omega), decide_eq_true (by omega)]
  rfl
theorem pairsIn_of {a b : List ByteArray} {i k : Nat} {m : List (Nat × Nat)} (h : Match a b i k m) : pairsIn a.length (m.map prOf) = true := by
 induction h with
 | nil => rfl
 | cons i k p m h1 h2 h3 h4 he hm ih =>
  unfold pairsIn at ih ⊢
  rw [List.map_cons, List.all_cons, ih, Bool.and_true]
  show (decide (0 ≤ (p.1 : Int)) && decide ((p.1 : Int) < (a.length : Int))) = true
  rw [decide_eq_true (by omega), decide_eq_true (by omega)]
  rfl
theorem pairs_ev (a b : List ByteArray) (ha : small a) (hb : small b) : Ev (fun k => merge_pairs.f k a b) (if bothErr a b = 0 then (pxs a.length (bestOf a b), (0 : Int)) else (([] : List Int), bothErr a b)) := by
 unfold merge_pairs.f
 refine Ev.bd (best_ev a b ha hb) (Ev.ke ?_)
 unfold merge_pairs.g
 by_cases h : bothErr a b = 0
 ·rw [if_pos h, if_pos h, if_pos rfl]
  have hz := bothErr_zero.1 h
  obtain ⟨l0, _, l1, _⟩ := linesErr_zero hz.1
  have hlen : (bestOf a b).length ≤ a.length := by rw [bestOf_length]; exact lcsLen_le_left a b
  rw [if_pos]
  ·rfl
  ·rw [pairsIn_of (bestOf_greedy a b).match, List.length_map, decide_eq_true l1, decide_eq_true (show a.length ≤ 1000000 by omega), decide_eq_true (show (bestOf a b).length ≤ 1000000 by omega)]
   rfl
 ·rw [if_neg h, if_neg h, if_neg h]
def gapP (a b c : List ByteArray) (x y : Nat × Nat × Nat) : List S34 := if y = x then [] else [mkPiece (segL a x.1 y.1) (segL b x.2.1 y.2.1) (segL c x.2.2 y.2.2)]
theorem cutAt_gap (a b c : List ByteArray) (x y : Nat × Nat × Nat) (out : List S34) (h : x.1 ≤ y.1 ∧ y.1 ≤ a.length ∧ x.2.1 ≤ y.2.1 ∧ y.2.1 ≤ b.length ∧ x.2.2 ≤ y.2.2 ∧ y.2.2 ≤ c.length) : cutAt a b c x y out = some (out ++ gapP a b c x y) := by
 unfold cutAt gapP
 by_cases e : y = x
 ·rw [if_pos e, if_pos e, List.append_nil]
 ·rw [if_neg e, if_neg e, if_pos h]
theorem ex_next (P : Nat → Bool) : ∀ (d i n : Nat), i + d = n → ∃ t, i ≤ t ∧ t ≤ n ∧ (∀ j, i ≤ j → j < t → P j = false) ∧ (t = n ∨ t < n ∧ P t = true)
 | 0, i, n, h => ⟨i, Nat.le_refl _, by omega, fun j h1 h2 => by omega, .inl (by omega)⟩
 | d + 1, i, n, h => by
  cases hp : P i with
  | true => exact ⟨i, Nat.le_refl _, by omega, fun j h1 h2 => by omega, .inr ⟨by omega, hp⟩⟩
  | false =>
   obtain ⟨t, h1, h2, h3, h4⟩ := ex_next P d (i + 1) n (by omega)
   refine ⟨t, by omega, h2, fun j hj1 hj2 => ?_, h4⟩
   by_cases e : j = i
   ·rw [e]; exact hp
   ·exact h3 j (by omega) hj2
theorem mgo_skip (a b c : List ByteArray) (x y : List Int) (at_ : Nat × Nat × Nat) (out : List S34) : ∀ (d f i : Nat), i + d ≤ a.length → (∀ j, i ≤ j → j < i + d → mboth x y j = false) → mgo a b c x y (f + d) i at_ out = mgo a b c x y f (i + d) at_ out
 | 0, _, _, _, _ => rfl
 | d + 1, f, i, h, hj => by
  rw [show f + (d + 1) = (f + d) + 1 by omega, mgo, if_pos (by omega), hj i (Nat.le_refl _) (by omega), if_neg Bool.false_ne_true, mgo_skip a b c x y at_ out d f (i + 1) (by omega) (fun j h1 h2 => hj j (by omega) (by omega)), show i + 1 + d = i + (d + 1) by omega]
theorem mrun_spec (x y : List Int) (n i : Nat) : ∀ d m, 1 ≤ m → n < i + m + d → (∀ k, m ≤ k → k < mrun x y n i d m → mruns x y n i k = true) ∧ mruns x y n i (mrun x y n i d m) = false
 | 0, m, h0, h => by
  refine ⟨fun k h1 h2 => by unfold mrun at h2; omega, ?_⟩
  unfold mrun mruns
  rw [decide_eq_false (by omega), Bool.false_and]
 | d + 1, m, h0, h => by
  unfold mrun
  cases hr : mruns x y n i m with
  | true =>
   rw [if_pos rfl]
   obtain ⟨h1, h2⟩ := mrun_spec x y n i d (m + 1) (by omega) (by omega)
   refine ⟨fun k hk1 hk2 => ?_, h2⟩
   by_cases e : k = m
   ·rw [e]; exact hr
   ·exact h1 k (by omega) hk2
  | false =>
   rw [if_neg Bool.false_ne_true]
   exact ⟨fun k h1 h2 => by omega, hr⟩
theorem seg_match (a b : List ByteArray) (t q : Nat) : ∀ M, t + M ≤ a.length → q + M ≤ b.length → (∀ k (h1 : t + k < a.length) (h2 : q + k < b.length), k < M → a[t + k] = b[q + k]) → segL b q (q + M) = segL a t (t + M)
 | 0, _, _, _ => by
  unfold segL
  rw [List.drop_eq_nil_of_le (by rw [List.length_take]; omega), List.drop_eq_nil_of_le (by rw [List.length_take]; omega)]
 | M + 1, h1, h2, h => by
  have ih := seg_match a b t q M (by omega) (by omega) (fun k g1 g2 hk => h k g1 g2 (by omega))
  unfold segL at ih ⊢
  rw [← seg_join a (show t ≤ t + M by omega) (show t + M ≤ t + (M + 1) by omega), ← seg_join b (show q ≤ q + M by omega) (show q + M ≤ q + (M + 1) by omega), ih, show t + (M + 1) = t + M + 1 by omega, show q + (M + 1) = q + M + 1 by omega, take_one_drop a _ (by omega), take_one_drop b _ (by omega), h M (by omega) (by omega) (by omega)]
theorem kind_kept (l : List ByteArray) : kindB l l l = 1 := by
 unfold kindB
 rw [decide_eq_true rfl]
 rfl
def Bnd (m1 m2 : List (Nat × Nat)) (i p r : Nat) : Prop := (i = 0 ∧ p = 0 ∧ r = 0) ∨ ∃ f u v, i = f + 1 ∧ p = u + 1 ∧ r = v + 1 ∧ pt m1 f = some u ∧ pt m2 f = some v
def mres (a b c : List ByteArray) (m1 m2 : List (Nat × Nat)) (f i : Nat) (at_ : Nat × Nat × Nat) (out : List S34) : Option (List S34) :=
 (mgo a b c (pxs a.length m1) (pxs a.length m2) f i at_ out).bind fun r => cutAt a b c r.1 (a.length, b.length, c.length) r.2
inductive Turn (a b c : List ByteArray) (m1 m2 : List (Nat × Nat)) (i p r : Nat) : Prop
 | last (h : ∀ j, i ≤ j → j < a.length → pt m1 j = none ∨ pt m2 j = none) (he : ∀ f out, a.length - i < f → mres a b c m1 m2 f i (i, p, r) out = some (out ++ gapP a b c (i, p, r) (a.length, b.length, c.length)))
 | next (t q s M : Nat) (h1 : i ≤ t) (h2 : t + M ≤ a.length) (hM : 1 ≤ M) (h : ∀ j, i ≤ j → j < t → pt m1 j = none ∨ pt m2 j = none) (hq : ∀ k, k < M → pt m1 (t + k) = some (q + k) ∧ pt m2 (t + k) = some (s + k)) (hs : ¬ (pt m1 (t + M) = some (q + M) ∧ pt m2 (t + M) = some (s + M)))
   (hp : p ≤ q) (hr : r ≤ s) (hqb : q + M ≤ b.length) (hsc : s + M ≤ c.length) (hb : Bnd m1 m2 (t + M) (q + M) (s + M))
   (he : ∀ f out, a.length - i < f → ∃ f', a.length - (t + M) < f' ∧ mres a b c m1 m2 f i (i, p, r) out = mres a b c m1 m2 f' (t + M) (t + M, q + M, s + M) (out ++ gapP a b c (i, p, r) (t, q, s) ++ [⟨1, segL a t (t + M), segL a t (t + M), segL a t (t + M)⟩]))
theorem pn_nonneg {o : Option Nat} : decide (0 ≤ pn o) = o.isSome := by
 cases o with
 | none => rfl
 | some u => simp [pn]
theorem turn {a b c : List ByteArray} {m1 m2 : List (Nat × Nat)} (h1 : Match a b 0 0 m1) (h2 : Match a c 0 0 m2) (i p r : Nat) (hi : i ≤ a.length) (hb : Bnd m1 m2 i p r) : Turn a b c m1 m2 i p r := by
 have hboth : ∀ j, j < a.length → mboth (pxs a.length m1) (pxs a.length m2) j = ((pt m1 j).isSome && (pt m2 j).isSome) := fun j hj => by
  unfold mboth
  rw [pxs_at h1 j hj, pxs_at h2 j hj, pn_nonneg, pn_nonneg]
 have hpb : p ≤ b.length ∧ r ≤ c.length := by
  rcases hb with ⟨_, rfl, rfl⟩ | ⟨f, u, v, _, rfl, rfl, e1, e2⟩
  ·omega
  ·obtain ⟨_, _, _, g1, _⟩ := pt_some h1 e1
   obtain ⟨_, _, _, g2, _⟩ := pt_some h2 e2
   omega
 obtain ⟨t, g1, g2, g3, g4⟩ := ex_next (fun j => (pt m1 j).isSome && (pt m2 j).isSome) (a.length - i) i a.length (by omega)
 have hno : ∀ j, i ≤ j → j < t → pt m1 j = none ∨ pt m2 j = none := fun j k1 k2 => by
  have := g3 j k1 k2
  simp only [Bool.and_eq_false_iff, Option.isSome_eq_false_iff, Option.isNone_iff_eq_none] at this
  exact this
 have hsk : ∀ f out, mgo a b c (pxs a.length m1) (pxs a.length m2) (f + (t - i)) i (i, p, r) out = mgo a b c (pxs a.length m1) (pxs a.length m2) f t (i, p, r) out := fun f out => by
  have := mgo_skip a b c (pxs a.length m1) (pxs a.length m2) (i, p, r) out (t - i) f i (by omega) (fun j k1 k2 => by
   rw [hboth j (by omega)]
   exact g3 j k1 (by omega))
  rwa [show i + (t - i) = t by omega] at this
 rcases g4 with rfl | ⟨ht, hp⟩
 ·refine .last hno (fun f out hf => ?_)
  obtain ⟨f', rfl⟩ : ∃ f', f = (f' + 1) + (a.length - i) := ⟨f - 1 - (a.length - i), by omega⟩
  unfold mres
  rw [hsk, mgo, if_neg (by omega)]
  exact cutAt_gap a b c (i, p, r) _ out ⟨by simpa using hi, Nat.le_refl _, by simpa using hpb.1, Nat.le_refl _, by simpa using hpb.2, Nat.le_refl _⟩
 ·rw [Bool.and_eq_true, Option.isSome_iff_exists, Option.isSome_iff_exists] at hp
  obtain ⟨⟨q, hq⟩, ⟨s, hs⟩⟩ := hp
  obtain ⟨_, _, _, hqb, _⟩ := pt_some h1 hq
  obtain ⟨_, _, _, hsc, _⟩ := pt_some h2 hs
  have hpq : p ≤ q ∧ r ≤ s := by
   rcases hb with ⟨_, rfl, rfl⟩ | ⟨f, u, v, rfl, rfl, rfl, e1, e2⟩
   ·omega
   ·have := pt_mono h1 e1 hq (by omega)
    have := pt_mono h2 e2 hs (by omega)
    omega
  have xq : (pxs a.length m1).getD t 0 = (q : Int) := by rw [pxs_at h1 t ht, hq]; rfl
  have ys : (pxs a.length m2).getD t 0 = (s : Int) := by rw [pxs_at h2 t ht, hs]; rfl
  obtain ⟨M, hM⟩ : ∃ M, M = mrun (pxs a.length m1) (pxs a.length m2) a.length t a.length 1 := ⟨_, rfl⟩
  have hM1 := mrun_ge (pxs a.length m1) (pxs a.length m2) a.length t a.length 1
  have hM2 := mrun_le (pxs a.length m1) (pxs a.length m2) a.length t a.length 1 (by omega)
  have hsp := mrun_spec (pxs a.length m1) (pxs a.length m2) a.length t a.length 1 (Nat.le_refl _) (by omega)
  rw [← hM] at hM1 hM2 hsp
  have hruns : ∀ k, t + k < a.length → (mruns (pxs a.length m1) (pxs a.length m2) a.length t k = true ↔ pt m1 (t + k) = some (q + k) ∧ pt m2 (t + k) = some (s + k)) := fun k hk => by
   rw [mruns_eq xq ys, pxs_at h1 _ hk, pxs_at h2 _ hk]
   simp only [Bool.and_eq_true, decide_eq_true_eq]
   have hpn : ∀ (o : Option Nat) (z : Nat), pn o = ((z : Nat) : Int) ↔ o = some z := fun o z => by
    cases o with
    | none => simp [pn]
    | some w => simp only [pn, Option.some.injEq]; omega
   rw [hpn, hpn]
   exact ⟨fun h => h.2, fun h => ⟨hk, h⟩⟩
  have hrun : ∀ k, k < M → pt m1 (t + k) = some (q + k) ∧ pt m2 (t + k) = some (s + k) := fun k hk => by
   by_cases e : k = 0
   ·subst e; exact ⟨hq, hs⟩
   ·exact (hruns k (by omega)).1 (hsp.1 k (by omega) hk)
  have hstop : ¬ (pt m1 (t + M) = some (q + M) ∧ pt m2 (t + M) = some (s + M)) := fun h => by
   by_cases e : t + M < a.length
   ·have := (hruns M e).2 h
    rw [hsp.2] at this
    cases this
   ·obtain ⟨_, _, g, _⟩ := pt_some h1 h.1
    omega
  have hl := hrun (M - 1) (by omega)
  obtain ⟨_, _, _, hqM, _⟩ := pt_some h1 hl.1
  obtain ⟨_, _, _, hsM, _⟩ := pt_some h2 hl.2
  have hbn : Bnd m1 m2 (t + M) (q + M) (s + M) := .inr ⟨t + (M - 1), q + (M - 1), s + (M - 1), by omega, by omega, by omega, hl.1, hl.2⟩
  refine .next t q s M g1 hM2 hM1 hno hrun hstop hpq.1 hpq.2 (by omega) (by omega) hbn (fun f out hf => ?_)
  obtain ⟨f', rfl⟩ : ∃ f', f = (f' + 1) + (t - i) := ⟨f - 1 - (t - i), by omega⟩
  refine ⟨f', by omega, ?_⟩
  unfold mres
  have hbt : mboth (pxs a.length m1) (pxs a.length m2) t = true := by rw [hboth t ht, hq, hs]; rfl
  rw [hsk, mgo, if_pos ht, hbt, if_pos rfl, xq, ys, Int.toNat_natCast, Int.toNat_natCast, ← hM, cutAt_gap a b c (i, p, r) (t, q, s) out ⟨g1, by simpa using Nat.le_of_lt ht, hpq.1, by simpa using Nat.le_of_lt hqb, hpq.2, by simpa using Nat.le_of_lt hsc⟩, Option.bind_some, cutAt_gap a b c (t, q, s) (t + M, q + M, s + M) _ ⟨by simp, hM2, by simp, by simp; omega, by simp, by simp; omega⟩, Option.bind_some]
  have hg : gapP a b c (t, q, s) (t + M, q + M, s + M) = [⟨1, segL a t (t + M), segL a t (t + M), segL a t (t + M)⟩] := by
   unfold gapP
   rw [if_neg (by simp; omega)]
   have e1 : segL b q (q + M) = segL a t (t + M) := seg_match a b t q M hM2 (by omega) (fun k k1 k2 hk => by
    obtain ⟨_, _, _, _, e⟩ := pt_some h1 (hrun k hk).1
    exact e)
   have e2 : segL c s (s + M) = segL a t (t + M) := seg_match a c t s M hM2 (by omega) (fun k k1 k2 hk => by
    obtain ⟨_, _, _, _, e⟩ := pt_some h2 (hrun k hk).2
    exact e)
   simp only
   rw [e1, e2]
   unfold mkPiece
   rw [kind_kept]
  rw [hg]
end Go.Proofs.Ytahpbpacjciddaa.Pr
end
