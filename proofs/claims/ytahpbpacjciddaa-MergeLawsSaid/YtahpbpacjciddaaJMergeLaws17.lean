/- Part 17 of the proof of MergeLaws: texts put together. -/
import Derived.Test.YtahpbpacjciddaaJMergeLaws4
import Derived.Test.YtahpbpacjciddaaJMergeLaws5
import Derived.Test.YtahpbpacjciddaaJMergeLaws10
import Derived.Test.YtahpbpacjciddaaJMergeLaws16
section
namespace Go.Proofs.Ytahpbpacjciddaa.Pr
open Go.RowKit Go.Proofs.YtahpbpacjciddaaW.PrintWords Go.Proofs.YtahpbpacjciddaaW.PrintLast Go.Proofs.YtahpbpacjciddaaW.PrintMore
attribute [local go_sem] max2_int min2_int max_two min_two max_three min_three max_four min_four   
set_option linter.unusedVariables false
set_option linter.unusedSimpArgs false
def sidingref18_Check.l0 : Nat → List (S34) → Int → Option (Int)
 | 0, _, _ => none
 | k + 1, x0, x3 => if x3 < (x0.length : Int) then (if 0 ≤ x3 then ((sidingref18_Valid.f k ((rd_T34 x0 x3).f0) ((rd_T34 x0 x3).f1) ((rd_T34 x0 x3).f2) ((rd_T34 x0 x3).f3)).bind fun t296 => (if t296 = true then (sidingref18_Check.l0 k x0 (wrap64 (x3 + 1))) else (some 8))) else (none)) else (some 0)
def sidingref18_Check.f (k : Nat) (l0 : List (S34)) : Option (Int) := if (l0.length : Int) > 130 then (some 4) else (sidingref18_Check.l0 k l0 0)
theorem sidingref18_Check.mono_l : ∀ k, (∀ y0 y1, LeO (sidingref18_Check.l0 k y0 y1) (sidingref18_Check.l0 (k + 1) y0 y1))
 | 0 => fun _ _ r h => by simp [sidingref18_Check.l0] at h
 | k + 1 => by
  have ih0 := sidingref18_Check.mono_l k
  ·intro y0 y1
   unfold sidingref18_Check.l0
   repeat' first
   | (with_reducible exact ih0 _ _)
   | (with_reducible exact sidingref18_Valid.mono _ _ _ _ _)
   | (with_reducible exact LeO.refl _)
   | (with_reducible exact LeO.none _)
   | (with_reducible refine LeO.ite ?_ ?_)
   | (with_reducible refine LeO.bind ?_ (fun _ => ?_))
   | exact ih0 _ _
   | exact sidingref18_Valid.mono _ _ _ _ _
   | exact LeO.none _
   | refine LeO.ite ?_ ?_
   | refine LeO.bind ?_ (fun _ => ?_)
theorem sidingref18_Check.mono : ∀ a0 k, LeO (sidingref18_Check.f k a0) (sidingref18_Check.f (k + 1) a0) := by
 intro a0 k
 have ih0 := sidingref18_Check.mono_l k
 unfold sidingref18_Check.f
 repeat' first
   | (with_reducible exact ih0 _ _)
   | (with_reducible exact sidingref18_Valid.mono _ _ _ _ _)
   | (with_reducible exact LeO.refl _)
   | (with_reducible exact LeO.none _)
   | (with_reducible refine LeO.ite ?_ ?_)
   | (with_reducible refine LeO.bind ?_ (fun _ => ?_))
   | exact ih0 _ _
   | exact sidingref18_Valid.mono _ _ _ _ _
   | exact LeO.none _
   | refine LeO.ite ?_ ?_
   | refine LeO.bind ?_ (fun _ => ?_)
set_option maxHeartbeats 8000000 in
set_option maxRecDepth 100000 in
theorem sidingref18_Check.calls (k : Nat) (A0 : Option Addr) (c0 : Nat) (l0 : List (S34)) (r : Int) (w : World) (hr0 : Kd.C k34 w A0 l0.length l0) (hc0 : l0.length ≤ c0) (h : sidingref18_Check.f k l0 = some r) :
  Calls Try.prog 23 #[.slice A0 l0.length c0] w fun e w' => e = .returned (.int .i64 r) ∧ Below w.heap.size w w' := by
 have hu34 := Try.underlying34
 have HR0 := Aside0.mk hr0
 have HC0 := Aside0.mk hc0
 clear hr0 hc0
 have HB := Aside0.mk (Below.refl w.heap.size w)
 have H : (if (l0.length : Int) > 130 then (some 4) else (sidingref18_Check.l0 k l0 0)) = some r := h
 clear h
 by_cases c2 : (l0.length : Int) > 130
 ·rw [if_pos c2] at H
  have c2b0 : decide (130 < (l0.length : Int)) = true := decide_eq_true c2
  have c2b1 : decide (130 < l0.length) = true := decide_eq_true (by omega)
  clear c2
  obtain rfl := Option.some.inj H
  go_enter Try.func23, Try.ntmps23
  go_wp2
  go_ret
  exact ⟨by first | rfl | (simp [errW_none, errW_some] <;> rfl) | (simp [*, errW_none, errW_some] <;> rfl), by repeat (first | (with_reducible first | exact HB.out | apply below_alloc | apply pw_below_drewN | apply below_drew1) | exact HB.out)⟩
 ·rw [if_neg c2] at H
  have c2b0 : decide (130 < (l0.length : Int)) = false := decide_eq_false c2
  have c2b1 : decide (130 < l0.length) = false := decide_eq_false (by omega)
  clear c2
  have H' := Aside0.mk H
  clear H
  go_enter Try.func23, Try.ntmps23
  go_wp2
  go_loopg [3] k (fun kq v3 w' => ∃ (x3_1 : Int), v3 = .int .i64 x3_1 ∧ Aside0 (sidingref18_Check.l0 kq l0 x3_1 = some r) ∧ Aside0 (kq ≤ k) ∧ Aside0 (Below w.heap.size w w'))
  case atStart => exact ⟨(0), (by first | rfl | (simp; done) | (simp [*]; done)), H', ⟨Nat.le_refl _⟩, ⟨by repeat (first | (with_reducible first | exact HB.out | apply below_alloc | apply pw_below_drewN | apply below_drew1) | exact HB.out)⟩⟩
  case round =>
   clear H'
   try clear c2
   try clear c2b0
   try clear c2b1
   try clear p2
   obtain ⟨x3_1, rfl, HA, HK1, HB⟩ := hrel
   cases gk with
   | zero => exact absurd HA.out (by simp [sidingref18_Check.l0])
   | succ k1 =>
    have H := HA.out
    clear HA
    simp only [sidingref18_Check.l0] at H
    by_cases c3 : x3_1 < (l0.length : Int)
    ·rw [if_pos c3] at H
     have c3b0 : decide (x3_1 < (l0.length : Int)) = true := decide_eq_true c3
     clear c3
     by_cases c4 : 0 ≤ x3_1
     ·rw [if_pos c4] at H
      have c4b0 : decide (0 ≤ x3_1) = true := decide_eq_true c4
      clear c4
      replace H := Option.bind_eq_some_iff.mp H
      obtain ⟨t296, A50, H⟩ := H
      replace H : (if t296 = true then (sidingref18_Check.l0 k1 l0 (wrap64 (x3_1 + 1))) else (some 8)) = some r := H
      have A5 := Aside0.mk A50
      clear A50
      by_cases c6 : t296 = true
      ·subst c6
       have H1 : (sidingref18_Check.l0 k1 l0 (wrap64 (x3_1 + 1))) = some r := by rw [if_pos rfl] at H; exact H
       clear H
       have H := H1
       clear H1
       have H' := Aside0.mk H
       clear H
       have p295 : 0 ≤ (x3_1 : Int) := of_decide_eq_true (by first | (with_reducible assumption) | assumption)
       have q295 : x3_1 < (l0.length : Int) := of_decide_eq_true (by first | (with_reducible assumption) | assumption)
       obtain ⟨ad295, A295_1, c295_1, A295_2, c295_2, A295_3, c295_3, e295, hx295_0, hx295_1, hx295_2, hx295_3, hl295_1, hi295_1, hl295_2, hi295_2, hl295_3, hi295_3⟩ := at_T34 HR0.out x3_1 p295 q295
       cases e295
       replace hx295_0 := (HB.out.cell (World.block_lt_of_cell? w _ hx295_0)).trans hx295_0
       replace hx295_1 := (HB.out.cell (World.block_lt_of_cell? w _ hx295_1)).trans hx295_1
       replace hx295_2 := (HB.out.cell (World.block_lt_of_cell? w _ hx295_2)).trans hx295_2
       replace hx295_3 := (HB.out.cell (World.block_lt_of_cell? w _ hx295_3)).trans hx295_3
       have HR295_1 := Aside0.mk hi295_1
       have HC295_1 := Aside0.mk hl295_1
       clear hi295_1 hl295_1
       have HR295_2 := Aside0.mk hi295_2
       have HC295_2 := Aside0.mk hl295_2
       clear hi295_2 hl295_2
       have HR295_3 := Aside0.mk hi295_3
       have HC295_3 := Aside0.mk hl295_3
       clear hi295_3 hl295_3
       replace p295 := eq_true p295
       replace q295 := eq_true q295
       go_wp2_with (first | ((with_reducible refine gate_callee (f := 38) rfl ?_); refine goesL_ (some 17) rfl rfl Try.func38 (by kernel_rfl) rfl #[.agg #[.int .u8 ((rd_T34 l0 x3_1).f0), .slice A295_1 ((rd_T34 l0 x3_1).f1).length c295_1, .slice A295_2 ((rd_T34 l0 x3_1).f2).length c295_2, .slice A295_3 ((rd_T34 l0 x3_1).f3).length c295_3]] rfl (by (try simp only [List.map_toArray, List.map_cons, List.map_nil]); first | done | rfl | (simp only [List.length_drop, List.length_take]; rfl)) ?_; (with_reducible refine (sidingref18_Valid.calls k1 ((rd_T34 l0 x3_1).f0) _ _ ((rd_T34 l0 x3_1).f1) _ _ ((rd_T34 l0 x3_1).f2) _ _ ((rd_T34 l0 x3_1).f3) true _ ?side1 ?side2 ?side3 ?side4 ?side5 ?side6 A5.out).mono ?_); (case side1 => repeat (first | exact (Kd.C_below HR295_1.out HB.out) | (with_reducible refine Kd.C_alloc ?_ _) | (with_reducible refine Kd.C_drewN ?_ _) | (with_reducible refine Kd.C_drew ?_))); (case side2 => exact HC295_1.out); (case side3 => repeat (first | exact (Kd.C_below HR295_2.out HB.out) | (with_reducible refine Kd.C_alloc ?_ _) | (with_reducible refine Kd.C_drewN ?_ _) | (with_reducible refine Kd.C_drew ?_))); (case side4 => exact HC295_2.out); (case side5 => repeat (first | exact (Kd.C_below HR295_3.out HB.out) | (with_reducible refine Kd.C_alloc ?_ _) | (with_reducible refine Kd.C_drewN ?_ _) | (with_reducible refine Kd.C_drew ?_))); (case side6 => exact HC295_3.out); rintro e w7 ⟨rfl, hb⟩; refine ⟨_, rfl, ?_⟩; have n0_ := Aside0.mk (below_step (by repeat (first | (with_reducible first | exact HB.out | apply below_alloc | apply pw_below_drewN | apply below_drew1) | exact HB.out)) hb); clear HB; have HB := n0_; clear n0_; (try clear hb); (try clear hb2); (try clear hk); (try clear hi)))
       go_roundg k1
       case measure => have := HK1.out; omega
       case rel => exact ⟨(wrap64 (x3_1 + 1)), (by first | rfl | (simp; done) | (simp [*]; done)), H', ⟨by have := HK1.out; omega⟩, ⟨by repeat (first | (with_reducible first | exact HB.out | apply below_alloc | apply pw_below_drewN | apply below_drew1) | exact HB.out)⟩⟩
      ·replace c6 := Bool.eq_false_iff.mpr c6
       subst c6
       have H1 : (some 8) = some r := by rw [if_neg (show ¬ (false = true) by decide)] at H; exact H
       clear H
       have H := H1
       clear H1
       obtain rfl := Option.some.inj H
       have p295 : 0 ≤ (x3_1 : Int) := of_decide_eq_true (by first | (with_reducible assumption) | assumption)
       have q295 : x3_1 < (l0.length : Int) := of_decide_eq_true (by first | (with_reducible assumption) | assumption)
       obtain ⟨ad295, A295_1, c295_1, A295_2, c295_2, A295_3, c295_3, e295, hx295_0, hx295_1, hx295_2, hx295_3, hl295_1, hi295_1, hl295_2, hi295_2, hl295_3, hi295_3⟩ := at_T34 HR0.out x3_1 p295 q295
       cases e295
       replace hx295_0 := (HB.out.cell (World.block_lt_of_cell? w _ hx295_0)).trans hx295_0
       replace hx295_1 := (HB.out.cell (World.block_lt_of_cell? w _ hx295_1)).trans hx295_1
       replace hx295_2 := (HB.out.cell (World.block_lt_of_cell? w _ hx295_2)).trans hx295_2
       replace hx295_3 := (HB.out.cell (World.block_lt_of_cell? w _ hx295_3)).trans hx295_3
       have HR295_1 := Aside0.mk hi295_1
       have HC295_1 := Aside0.mk hl295_1
       clear hi295_1 hl295_1
       have HR295_2 := Aside0.mk hi295_2
       have HC295_2 := Aside0.mk hl295_2
       clear hi295_2 hl295_2
       have HR295_3 := Aside0.mk hi295_3
       have HC295_3 := Aside0.mk hl295_3
       clear hi295_3 hl295_3
       replace p295 := eq_true p295
       replace q295 := eq_true q295
       go_wp2_with (first | ((with_reducible refine gate_callee (f := 38) rfl ?_); refine goesL_ (some 17) rfl rfl Try.func38 (by kernel_rfl) rfl #[.agg #[.int .u8 ((rd_T34 l0 x3_1).f0), .slice A295_1 ((rd_T34 l0 x3_1).f1).length c295_1, .slice A295_2 ((rd_T34 l0 x3_1).f2).length c295_2, .slice A295_3 ((rd_T34 l0 x3_1).f3).length c295_3]] rfl (by (try simp only [List.map_toArray, List.map_cons, List.map_nil]); first | done | rfl | (simp only [List.length_drop, List.length_take]; rfl)) ?_; (with_reducible refine (sidingref18_Valid.calls k1 ((rd_T34 l0 x3_1).f0) _ _ ((rd_T34 l0 x3_1).f1) _ _ ((rd_T34 l0 x3_1).f2) _ _ ((rd_T34 l0 x3_1).f3) false _ ?side1 ?side2 ?side3 ?side4 ?side5 ?side6 A5.out).mono ?_); (case side1 => repeat (first | exact (Kd.C_below HR295_1.out HB.out) | (with_reducible refine Kd.C_alloc ?_ _) | (with_reducible refine Kd.C_drewN ?_ _) | (with_reducible refine Kd.C_drew ?_))); (case side2 => exact HC295_1.out); (case side3 => repeat (first | exact (Kd.C_below HR295_2.out HB.out) | (with_reducible refine Kd.C_alloc ?_ _) | (with_reducible refine Kd.C_drewN ?_ _) | (with_reducible refine Kd.C_drew ?_))); (case side4 => exact HC295_2.out); (case side5 => repeat (first | exact (Kd.C_below HR295_3.out HB.out) | (with_reducible refine Kd.C_alloc ?_ _) | (with_reducible refine Kd.C_drewN ?_ _) | (with_reducible refine Kd.C_drew ?_))); (case side6 => exact HC295_3.out); rintro e w8 ⟨rfl, hb⟩; refine ⟨_, rfl, ?_⟩; have n0_ := Aside0.mk (below_step (by repeat (first | (with_reducible first | exact HB.out | apply below_alloc | apply pw_below_drewN | apply below_drew1) | exact HB.out)) hb); clear HB; have HB := n0_; clear n0_; (try clear hb); (try clear hb2); (try clear hk); (try clear hi)))
       go_ret
       exact ⟨by first | rfl | (simp [errW_none, errW_some] <;> rfl) | (simp [*, errW_none, errW_some] <;> rfl), by repeat (first | (with_reducible first | exact HB.out | apply below_alloc | apply pw_below_drewN | apply below_drew1) | exact HB.out)⟩
     ·rw [if_neg c4] at H
      exact absurd H (by simp)
    ·rw [if_neg c3] at H
     have c3b0 : decide (x3_1 < (l0.length : Int)) = false := decide_eq_false c3
     clear c3
     obtain rfl := Option.some.inj H
     go_wp2
     go_ret
     exact ⟨by first | rfl | (simp [errW_none, errW_some] <;> rfl) | (simp [*, errW_none, errW_some] <;> rfl), by repeat (first | (with_reducible first | exact HB.out | apply below_alloc | apply pw_below_drewN | apply below_drew1) | exact HB.out)⟩
end Go.Proofs.Ytahpbpacjciddaa.Pr
end
section
namespace Go.Proofs.Ytahpbpacjciddaa.Pr
open Go.RowKit Go.Proofs.YtahpbpacjciddaaW.PrintWords Go.Proofs.YtahpbpacjciddaaW.PrintLast Go.Proofs.YtahpbpacjciddaaW.PrintMore
set_option linter.unusedVariables false
set_option linter.unusedSimpArgs false
def sideOf (f : S34 → List ByteArray) (l : List S34) : List ByteArray := (l.map f).flatten
def sd3 (b o t : List ByteArray) : Option (List ByteArray × List ByteArray × List ByteArray × Int) := some (b, o, t, 0)
def sd2 (b o t : List ByteArray) : Option (List ByteArray × List ByteArray × List ByteArray × Int) := (lines_Join.f t).bind fun j => if j.2 = 0 then sd3 b o t else some ([], [], [], j.2)
def sd1 (b o t : List ByteArray) : Option (List ByteArray × List ByteArray × List ByteArray × Int) := (lines_Join.f o).bind fun j => if j.2 = 0 then sd2 b o t else some ([], [], [], j.2)
def sd0 (b o t : List ByteArray) : Option (List ByteArray × List ByteArray × List ByteArray × Int) := (lines_Join.f b).bind fun j => if j.2 = 0 then sd1 b o t else some ([], [], [], j.2)
def sdAt (b o t : List ByteArray) : Nat → Option (List ByteArray × List ByteArray × List ByteArray × Int)
 | 0 => sd0 b o t
 | 1 => sd1 b o t
 | 2 => sd2 b o t
 | _ => sd3 b o t
def merge_Sides.f (l0 : List S34) : Option (List ByteArray × List ByteArray × List ByteArray × Int) :=
 (merge_Check.f l0).bind fun e => if e = 0 then sd0 (sideOf S34.f1 l0) (sideOf S34.f2 l0) (sideOf S34.f3 l0) else some ([], [], [], e)
theorem mcheck_zero {l : List S34} (h : merge_Check.f l = some 0) : l.length ≤ 130 ∧ ∀ x ∈ l, x.f1.length ≤ 60 ∧ x.f2.length ≤ 60 ∧ x.f3.length ≤ 60 := by
 have h2 := Option.some.inj h
 by_cases h3 : 130 < l.length
 ·rw [if_pos h3] at h2; cases h2
 ·rw [if_neg h3] at h2
  refine ⟨by omega, fun x hx => ?_⟩
  by_cases h4 : l.any mbad = true
  ·rw [if_pos h4] at h2; cases h2
  ·have h5 : mbad x = false := by
    cases hb : mbad x with
    | false => rfl
    | true => exact absurd (List.any_eq_true.2 ⟨x, hx, hb⟩) h4
   simp only [mbad, Bool.or_eq_false_iff, Bool.not_eq_false'] at h5
   exact ⟨mplain_len h5.1, mplain_len h5.2.1, mplain_len h5.2.2.1⟩
theorem row_other {W w1 : World} {b : Nat} {u v v1 x : Value} {xs : List ByteArray} (h : Kd.R Kd.string 9 W b (fun k => some k ≠ v.ownBlock ∧ some k ≠ x.ownBlock) u xs) (hg : W.grownBy w1 v.ownBlock) (hat : v1.ownBlock = v.ownBlock ∨ ∃ b, v1.ownBlock = some b ∧ W.heap.size ≤ b) :
  Kd.R Kd.string 9 w1 b (fun k => some k ≠ v1.ownBlock ∧ some k ≠ x.ownBlock) u xs :=
 Kd.R_mono (Kd.R_after (Kd.R_mono h (fun k hk => ⟨hk.2, hk.1⟩)) hg hat) (fun k hk => ⟨hk.2, hk.1⟩)
theorem bl_keep {w X : World} (hb : Below w.heap.size w X) {a : Addr} {v : Value} (h : w.cell? a = some v) : X.cell? a = some v := by
 have hl := World.block_lt_of_cell? w a h
 rw [← h]
 simp only [World.cell?, hb.block _ hl]
theorem row_swap {W : World} {b : Nat} {u v x : Value} {xs : List ByteArray} (h : Kd.R Kd.string 9 W b (fun k => some k ≠ v.ownBlock ∧ some k ≠ x.ownBlock) u xs) : Kd.R Kd.string 9 W b (fun k => some k ≠ x.ownBlock ∧ some k ≠ v.ownBlock) u xs := Kd.R_mono h (fun k hk => ⟨hk.2, hk.1⟩)
theorem row_fresh {W : World} {b : Nat} {ok : Nat → Prop} {v : Value} {xs : List ByteArray} (h : Kd.R Kd.string 9 W b ok v xs) (k : Nat) (hk : W.heap.size ≤ k) : some k ≠ v.ownBlock := fun e => by
 have := Kd.R_lt h k e.symm
 omega
set_option maxHeartbeats 8000000 in
set_option maxRecDepth 100000 in
theorem merge_Sides.calls (A0 : Option Addr) (c0 : Nat) (l0 : List S34) (r1 : List ByteArray) (r2 : List ByteArray) (r3 : List ByteArray) (r4 : Int) (w : World) (hr0 : Kd.C k34 w A0 l0.length l0) (hc0 : l0.length ≤ c0) (h : merge_Sides.f l0 = some (r1, r2, r3, r4)) :
  Calls Try.prog 22 #[.slice A0 l0.length c0] w fun e w' => ∃ v0_ v1_ v2_ : Value, e = .returned (.tuple #[v0_, v1_, v2_, .int .i64 r4]) ∧ Kd.R Kd.string 9 w' w.heap.size (fun k_ => some k_ ≠ (v1_ : Value).ownBlock ∧ some k_ ≠ (v2_ : Value).ownBlock) v0_ r1 ∧ Kd.R Kd.string 9 w' w.heap.size (fun k_ => some k_ ≠ (v0_ : Value).ownBlock ∧ some k_ ≠ (v2_ : Value).ownBlock) v1_ r2 ∧ Kd.R Kd.string 9 w' w.heap.size (fun k_ => some k_ ≠ (v0_ : Value).ownBlock ∧ some k_ ≠ (v1_ : Value).ownBlock) v2_ r3 ∧ Below w.heap.size w w' := by
 have i0 : ∀ (x y z : Value) W, (Instr.index 47 (.agg #[x, y, z]) (.int .i64 0)).run Try.prog W = .ok x W := fun x y z W => by kernel_rfl
 have i1 : ∀ (x y z : Value) W, (Instr.index 47 (.agg #[x, y, z]) (.int .i64 1)).run Try.prog W = .ok y W := fun x y z W => by kernel_rfl
 have i2 : ∀ (x y z : Value) W, (Instr.index 47 (.agg #[x, y, z]) (.int .i64 2)).run Try.prog W = .ok z W := fun x y z W => by kernel_rfl
 unfold merge_Sides.f at h
 obtain ⟨e, he, h⟩ := Option.bind_eq_some_iff.1 h
 have HR0 := Aside0.mk hr0
 have HE := Aside0.mk he
 clear hr0
 by_cases hz : e = 0
 ·subst hz
  rw [if_pos rfl] at h
  obtain ⟨hl, hin⟩ := mcheck_zero he
  have HIN := Aside0.mk hin
  obtain ⟨bF, hbF⟩ : ∃ b, b = sideOf S34.f1 l0 := ⟨_, rfl⟩
  obtain ⟨oF, hoF⟩ : ∃ b, b = sideOf S34.f2 l0 := ⟨_, rfl⟩
  obtain ⟨tF, htF⟩ : ∃ b, b = sideOf S34.f3 l0 := ⟨_, rfl⟩
  rw [← hbF, ← hoF, ← htF] at h
  have HF := Aside0.mk (show sdAt bF oF tF 0 = some (r1, r2, r3, r4) from h)
  have HBF := Aside0.mk hbF
  have HOF := Aside0.mk hoF
  have HTF := Aside0.mk htF
  clear hin he h hbF hoF htF
  go_enter Try.func22, Try.ntmps22
  go_wp2_with (go_at_call 20; (with_reducible refine (merge_Check.calls A0 c0 l0 0 _ HR0.out hc0 HE.out).mono ?_); rintro e_ w1 ⟨rfl, hb1⟩; have HB1 := Aside0.mk hb1; clear hb1)
  go_loopg [2, 3, 4, 20] l0.length (fun nq vb vo vt v20 wr => ∃ (j : Nat) (bs os ts : List ByteArray), v20 = .int .i64 (j : Int) ∧ j ≤ l0.length ∧ l0.length - j ≤ nq ∧ Aside0 (bs ++ sideOf S34.f1 (l0.drop j) = bF ∧ os ++ sideOf S34.f2 (l0.drop j) = oF ∧ ts ++ sideOf S34.f3 (l0.drop j) = tF) ∧ Aside0 (bs.length ≤ 60 * j ∧ os.length ≤ 60 * j ∧ ts.length ≤ 60 * j) ∧
   Aside0 (Kd.R Kd.string 9 wr w.heap.size (fun k => some k ≠ vo.ownBlock ∧ some k ≠ vt.ownBlock) vb bs) ∧ Aside0 (Kd.R Kd.string 9 wr w.heap.size (fun k => some k ≠ vb.ownBlock ∧ some k ≠ vt.ownBlock) vo os) ∧ Aside0 (Kd.R Kd.string 9 wr w.heap.size (fun k => some k ≠ vb.ownBlock ∧ some k ≠ vo.ownBlock) vt ts) ∧ Aside0 (Below w.heap.size w wr))
  case atStart => exact ⟨0, [], [], [], rfl, by omega, by omega, ⟨⟨HBF.out.symm, HOF.out.symm, HTF.out.symm⟩⟩, ⟨by simp⟩, ⟨Kd.R_nil _ _ _ _ _⟩, ⟨Kd.R_nil _ _ _ _ _⟩, ⟨Kd.R_nil _ _ _ _ _⟩, HB1⟩
  case round =>
   obtain ⟨j, bs, os, ts, rfl, hj, hjq, HA, HLN, VB, VO, VT, HB⟩ := hrel
   obtain ⟨AB, cB, rfl⟩ := Kd.R_slice VB.out
   obtain ⟨AO, cO, rfl⟩ := Kd.R_slice VO.out
   obtain ⟨AT, cT, rfl⟩ := Kd.R_slice VT.out
   by_cases hlt : j < l0.length
   ·have q1 : decide ((j : Int) < (l0.length : Int)) = true := decide_eq_true (by omega)
    obtain ⟨ad, A1, c1, A2, c2, A3, c3, rfl, k0, k1, k2, k3, n1, g1, n2, g2, n3, g3⟩ := at_T34 HR0.out (j : Int) (by omega) (by omega)
    have k0 := bl_keep HB.out k0
    have k1 := bl_keep HB.out k1
    have k2 := bl_keep HB.out k2
    have k3 := bl_keep HB.out k3
    have hx : l0.drop j = rd_T34 l0 (j : Int) :: l0.drop (j + 1) := by
     rw [List.drop_eq_getElem_cons hlt]
     unfold rd_T34
     rw [Int.toNat_natCast, List.getD_eq_getElem?_getD, List.getElem?_eq_getElem hlt]
     rfl
    obtain ⟨x, hxe⟩ : ∃ x, x = rd_T34 l0 (j : Int) := ⟨_, rfl⟩
    rw [← hxe] at k0 k1 k2 k3 n1 g1 n2 g2 n3 g3 hx
    have hxl := HIN.out x (List.mem_of_mem_drop (i := j) (by rw [hx]; exact List.mem_cons_self))
    have HX := Aside0.mk hx
    have HXL := Aside0.mk hxl
    clear hxe hx hxl
    simp only [Int.toNat_natCast] at k0 k1 k2 k3
    obtain ⟨W, hW⟩ : ∃ W, W = wr.alloc (.cells #[.int .u8 x.f0, .slice A1 x.f1.length c1, .slice A2 x.f2.length c2, .slice A3 x.f3.length c3] 34) := ⟨_, rfl⟩
    have hWB : Below wr.heap.size wr W := by rw [hW]; exact (Below.refl _ _).alloc (Nat.le_refl _) _
    have hsz : W.heap.size = wr.heap.size + 1 := by rw [hW]; simp
    have D1 := Aside0.mk (show W.cell? ⟨wr.heap.size, 1, none⟩ = some (.slice A1 x.f1.length c1) by rw [hW]; go_simp)
    have D2 := Aside0.mk (show W.cell? ⟨wr.heap.size, 2, none⟩ = some (.slice A2 x.f2.length c2) by rw [hW]; go_simp)
    have D3 := Aside0.mk (show W.cell? ⟨wr.heap.size, 3, none⟩ = some (.slice A3 x.f3.length c3) by rw [hW]; go_simp)
    have L0 := Aside0.mk (show wr.heap.size < W.heap.size by omega)
    have HWB := Aside0.mk (Below.trans HB.out (Below.mono hWB (Below.size HB.out)))
    have G1 := Aside0.mk g1
    have G2 := Aside0.mk g2
    have G3 := Aside0.mk g3
    have BB := Aside0.mk (Kd.R_below VB.out hWB)
    have BO := Aside0.mk (Kd.R_below VO.out hWB)
    have BT := Aside0.mk (Kd.R_below VT.out hWB)
    have d1 := D1.out
    have FB := Aside0.mk (show ∀ k, (Value.slice AB bs.length cB).ownBlock = some k → k < wr.heap.size from Kd.R_lt VB.out)
    have FO := Aside0.mk (show ∀ k, (Value.slice AO os.length cO).ownBlock = some k → k < wr.heap.size from Kd.R_lt VO.out)
    go_upto_region 7 with fail
    rw [← hW]
    clear hW hWB hsz g1 g2 g3 k0 k1 k2 k3 VB VO VT
    go_upto_region 8 with (at_builtin; refine Kd.R_append_rows Kd.string (w0 := w) w.heap.size rfl (.tmp 24) (.tmp 26) 22 9 (.string ⟨#[]⟩) 16 rfl Try.underlying22 info9 rfl (by decide) (by omega) (.slice AB bs.length cB) bs x.f1 _ _ _ (fun k => some k ≠ (Value.slice AO os.length cO).ownBlock ∧ some k ≠ (Value.slice AT ts.length cT).ownBlock) (fun _ => False) rfl rfl BB.out (Kd.C_below G1.out HWB.out) (fun _ _ h => h) (fun _ h => h.elim) (fun k hk => ⟨row_fresh BO.out k hk, row_fresh BT.out k hk⟩) HWB.out (Below.size HWB.out) (by have := HLN.out; have := HXL.out; omega) ?_; intro vb w5 hr5 hb5 hg5 hat5; obtain ⟨AB5, cB5, rfl⟩ := Kd.R_slice hr5; have R5 := Aside0.mk hr5; have HB5 := Aside0.mk hb5; have HG5 := Aside0.mk hg5; have HAT5 := Aside0.mk hat5; clear hr5 hb5 hg5 hat5)
    have BO5 := Aside0.mk (row_other BO.out HG5.out HAT5.out)
    have BT5 := Aside0.mk (row_other (row_swap (row_swap BT.out)) HG5.out HAT5.out)
    have ne5 : (some wr.heap.size : Option Nat) ≠ (Value.slice AB bs.length cB).ownBlock := fun e => by have := FB.out _ e.symm; omega
    have d2 := cell_grown HG5.out D2.out ne5
    have D3' := Aside0.mk (cell_grown HG5.out D3.out ne5)
    have HS5 := Aside0.mk (show wr.heap.size < w5.heap.size from Nat.lt_of_lt_of_le L0.out HG5.out.size)
    go_upto_region 9 with (at_builtin; refine Kd.R_append_rows Kd.string (w0 := w) w.heap.size rfl (.tmp 28) (.tmp 30) 22 9 (.string ⟨#[]⟩) 16 rfl Try.underlying22 info9 rfl (by decide) (by omega) (.slice AO os.length cO) os x.f2 _ _ _ (fun k => some k ≠ (Value.slice AB5 (bs ++ x.f1).length cB5).ownBlock ∧ some k ≠ (Value.slice AT ts.length cT).ownBlock) (fun _ => False) rfl rfl BO5.out (Kd.C_below G2.out HB5.out) (fun _ _ h => h) (fun _ h => h.elim) (fun k hk => ⟨row_fresh R5.out k hk, row_fresh BT5.out k hk⟩) HB5.out (Below.size HB5.out) (by have := HLN.out; have := HXL.out; omega) ?_; intro vo w6 hr6 hb6 hg6 hat6; obtain ⟨AO6, cO6, rfl⟩ := Kd.R_slice hr6; have R6 := Aside0.mk hr6; have HB6 := Aside0.mk hb6; have HG6 := Aside0.mk hg6; have HAT6 := Aside0.mk hat6; clear hr6 hb6 hg6 hat6)
    have BB6 := Aside0.mk (row_other R5.out HG6.out HAT6.out)
    have BT6 := Aside0.mk (row_swap (row_other (row_swap BT5.out) HG6.out HAT6.out))
    have ne6 : (some wr.heap.size : Option Nat) ≠ (Value.slice AO os.length cO).ownBlock := fun e => by have := FO.out _ e.symm; omega
    have d3 := cell_grown HG6.out D3'.out ne6
    clear ne5 ne6 d1 d2
    go_wp2_with (at_builtin; refine Kd.R_append_rows Kd.string (w0 := w) w.heap.size rfl (.tmp 32) (.tmp 34) 22 9 (.string ⟨#[]⟩) 16 rfl Try.underlying22 info9 rfl (by decide) (by omega) (.slice AT ts.length cT) ts x.f3 _ _ _ (fun k => some k ≠ (Value.slice AB5 (bs ++ x.f1).length cB5).ownBlock ∧ some k ≠ (Value.slice AO6 (os ++ x.f2).length cO6).ownBlock) (fun _ => False) rfl rfl BT6.out (Kd.C_below G3.out HB6.out) (fun _ _ h => h) (fun _ h => h.elim) (fun k hk => ⟨row_fresh BB6.out k hk, row_fresh R6.out k hk⟩) HB6.out (Below.size HB6.out) (by have := HLN.out; have := HXL.out; omega) ?_; intro vt w7 hr7 hb7 hg7 hat7; obtain ⟨AT7, cT7, rfl⟩ := Kd.R_slice hr7; have R7 := Aside0.mk hr7; have HB7 := Aside0.mk hb7; have HG7 := Aside0.mk hg7; have HAT7 := Aside0.mk hat7; clear hr7 hb7 hg7 hat7)
    have BB7 := Aside0.mk (row_swap (row_other (row_swap BB6.out) HG7.out HAT7.out))
    have BO7 := Aside0.mk (row_swap (row_other (row_swap R6.out) HG7.out HAT7.out))
    go_roundg (l0.length - (j + 1))
    case measure => omega
    case rel =>
     have hA := HA.out
     rw [HX.out] at hA
     have hL := HLN.out
     have hXL := HXL.out
     refine ⟨j + 1, bs ++ x.f1, os ++ x.f2, ts ++ x.f3, by go_num, by omega, by omega, ⟨?_⟩, ⟨by rw [List.length_append, List.length_append, List.length_append]; omega⟩, ⟨by have h := BB7.out; rw [List.length_append] at h; simpa [List.length_append] using h⟩, ⟨by have h := BO7.out; simpa [List.length_append] using h⟩, ⟨by have h := R7.out; simpa [List.length_append] using h⟩, HB7⟩
     simp only [sideOf, List.map_cons, List.flatten_cons, List.append_assoc] at hA ⊢
     exact hA
   ·have q1 : decide ((j : Int) < (l0.length : Int)) = false := decide_eq_false (by omega)
    have HE2 := Aside0.mk (show bs = bF ∧ os = oF ∧ ts = tF by
     have h := HA.out
     rw [List.drop_eq_nil_of_le (by omega)] at h
     simp only [sideOf, List.map_nil, List.flatten_nil, List.append_nil] at h
     exact h)
    obtain ⟨rfl, rfl, rfl⟩ := HE2.out
    clear HE2 HA HIN
    obtain ⟨wo, rfl⟩ : ∃ wo : World, wo = wr := ⟨_, rfl⟩
    go_upto_block 2 with fail
    go_wp2_with fail
    go_loopg [2, 3, 4, 41] 3 (fun nq v2 v3 v4 v41 wz => ∃ j : Nat, v2 = .slice AB bs.length cB ∧ v3 = .slice AO os.length cO ∧ v4 = .slice AT ts.length cT ∧ v41 = .int .i64 (j : Int) ∧ j ≤ 3 ∧ 3 - j ≤ nq ∧ Aside0 (sdAt bs os ts j = some (r1, r2, r3, r4)) ∧ Aside0 (Below wo.heap.size wo wz))
    case atStart => exact ⟨0, rfl, rfl, rfl, rfl, by omega, by omega, HF, ⟨Below.refl _ _⟩⟩
    case round =>
     clear HF hj hjq hlt q1
     obtain ⟨j, rfl, rfl, rfl, rfl, hj, hjq, HM, HBX⟩ := hrel
     have hcase : j = 0 ∨ j = 1 ∨ j = 2 ∨ j = 3 := by omega
     rcases hcase with rfl | rfl | rfl | rfl
     ·obtain ⟨⟨q, e⟩, hq, hm⟩ := Option.bind_eq_some_iff.1 (show sd0 bs os ts = some (r1, r2, r3, r4) from HM.out)
      have HQ := Aside0.mk hq
      have HC := Aside0.mk (Kd.C_below (Kd.R_reads' VB.out).2.2 HBX.out)
      dsimp only at hm
      clear hq HM
      by_cases he : e = 0
      ·subst he
       rw [if_pos rfl] at hm
       have HM' := Aside0.mk hm
       clear hm
       go_wp2_with (go_at_call 25; (with_reducible refine (lines_Join.calls AB cB bs q 0 _ HC.out (Kd.R_reads' VB.out).2.1 HQ.out).mono ?_); rintro e_ w1 ⟨v6, rfl, hv6, hb1⟩; obtain ⟨A6, c6, rfl⟩ := Kd.V_slice hv6; have HB1 := Aside0.mk (Below.trans HBX.out (Below.mono hb1 (Below.size HBX.out))); clear hv6 hb1)
       go_roundg 2
       case measure => omega
       case rel => exact ⟨1, rfl, rfl, rfl, rfl, by omega, by omega, HM', HB1⟩
      ·rw [if_neg he] at hm
       have h2 := Option.some.inj hm
       simp only [Prod.mk.injEq] at h2
       obtain ⟨rfl, rfl, rfl, rfl⟩ := h2
       clear hm
       have e1 : (e == 0) = false := by simpa using he
       have e2 : (e != 0) = true := by simpa using he
       go_wp2_with (go_at_call 25; (with_reducible refine (lines_Join.calls AB cB bs q e _ HC.out (Kd.R_reads' VB.out).2.1 HQ.out).mono ?_); rintro e_ w1 ⟨v6, rfl, hv6, hb1⟩; obtain ⟨A6, c6, rfl⟩ := Kd.V_slice hv6; have HB1 := Aside0.mk (Below.trans HBX.out (Below.mono hb1 (Below.size HBX.out))); clear hv6 hb1)
       exact bodyPost_ret (v := .tuple #[.slice none 0 0, .slice none 0 0, .slice none 0 0, .int .i64 e]) (by simp [results, Try.results22, go_sem]) rfl ⟨_, _, _, rfl, Kd.R_nil _ _ _ _ _, Kd.R_nil _ _ _ _ _, Kd.R_nil _ _ _ _ _, Below.trans HB.out (Below.mono HB1.out (Below.size HB.out))⟩
     ·obtain ⟨⟨q, e⟩, hq, hm⟩ := Option.bind_eq_some_iff.1 (show sd1 bs os ts = some (r1, r2, r3, r4) from HM.out)
      have HQ := Aside0.mk hq
      have HC := Aside0.mk (Kd.C_below (Kd.R_reads' VO.out).2.2 HBX.out)
      dsimp only at hm
      clear hq HM
      by_cases he : e = 0
      ·subst he
       rw [if_pos rfl] at hm
       have HM' := Aside0.mk hm
       clear hm
       go_wp2_with (go_at_call 25; (with_reducible refine (lines_Join.calls AO cO os q 0 _ HC.out (Kd.R_reads' VO.out).2.1 HQ.out).mono ?_); rintro e_ w1 ⟨v6, rfl, hv6, hb1⟩; obtain ⟨A6, c6, rfl⟩ := Kd.V_slice hv6; have HB1 := Aside0.mk (Below.trans HBX.out (Below.mono hb1 (Below.size HBX.out))); clear hv6 hb1)
       go_roundg 1
       case measure => omega
       case rel => exact ⟨2, rfl, rfl, rfl, rfl, by omega, by omega, HM', HB1⟩
      ·rw [if_neg he] at hm
       have h2 := Option.some.inj hm
       simp only [Prod.mk.injEq] at h2
       obtain ⟨rfl, rfl, rfl, rfl⟩ := h2
       clear hm
       have e1 : (e == 0) = false := by simpa using he
       have e2 : (e != 0) = true := by simpa using he
       go_wp2_with (go_at_call 25; (with_reducible refine (lines_Join.calls AO cO os q e _ HC.out (Kd.R_reads' VO.out).2.1 HQ.out).mono ?_); rintro e_ w1 ⟨v6, rfl, hv6, hb1⟩; obtain ⟨A6, c6, rfl⟩ := Kd.V_slice hv6; have HB1 := Aside0.mk (Below.trans HBX.out (Below.mono hb1 (Below.size HBX.out))); clear hv6 hb1)
       exact bodyPost_ret (v := .tuple #[.slice none 0 0, .slice none 0 0, .slice none 0 0, .int .i64 e]) (by simp [results, Try.results22, go_sem]) rfl ⟨_, _, _, rfl, Kd.R_nil _ _ _ _ _, Kd.R_nil _ _ _ _ _, Kd.R_nil _ _ _ _ _, Below.trans HB.out (Below.mono HB1.out (Below.size HB.out))⟩
     ·obtain ⟨⟨q, e⟩, hq, hm⟩ := Option.bind_eq_some_iff.1 (show sd2 bs os ts = some (r1, r2, r3, r4) from HM.out)
      have HQ := Aside0.mk hq
      have HC := Aside0.mk (Kd.C_below (Kd.R_reads' VT.out).2.2 HBX.out)
      dsimp only at hm
      clear hq HM
      by_cases he : e = 0
      ·subst he
       rw [if_pos rfl] at hm
       have HM' := Aside0.mk hm
       clear hm
       go_wp2_with (go_at_call 25; (with_reducible refine (lines_Join.calls AT cT ts q 0 _ HC.out (Kd.R_reads' VT.out).2.1 HQ.out).mono ?_); rintro e_ w1 ⟨v6, rfl, hv6, hb1⟩; obtain ⟨A6, c6, rfl⟩ := Kd.V_slice hv6; have HB1 := Aside0.mk (Below.trans HBX.out (Below.mono hb1 (Below.size HBX.out))); clear hv6 hb1)
       go_roundg 0
       case measure => omega
       case rel => exact ⟨3, rfl, rfl, rfl, rfl, by omega, by omega, HM', HB1⟩
      ·rw [if_neg he] at hm
       have h2 := Option.some.inj hm
       simp only [Prod.mk.injEq] at h2
       obtain ⟨rfl, rfl, rfl, rfl⟩ := h2
       clear hm
       have e1 : (e == 0) = false := by simpa using he
       have e2 : (e != 0) = true := by simpa using he
       go_wp2_with (go_at_call 25; (with_reducible refine (lines_Join.calls AT cT ts q e _ HC.out (Kd.R_reads' VT.out).2.1 HQ.out).mono ?_); rintro e_ w1 ⟨v6, rfl, hv6, hb1⟩; obtain ⟨A6, c6, rfl⟩ := Kd.V_slice hv6; have HB1 := Aside0.mk (Below.trans HBX.out (Below.mono hb1 (Below.size HBX.out))); clear hv6 hb1)
       exact bodyPost_ret (v := .tuple #[.slice none 0 0, .slice none 0 0, .slice none 0 0, .int .i64 e]) (by simp [results, Try.results22, go_sem]) rfl ⟨_, _, _, rfl, Kd.R_nil _ _ _ _ _, Kd.R_nil _ _ _ _ _, Kd.R_nil _ _ _ _ _, Below.trans HB.out (Below.mono HB1.out (Below.size HB.out))⟩
     ·have h2 := Option.some.inj (show sd3 bs os ts = some (r1, r2, r3, r4) from HM.out)
      simp only [Prod.mk.injEq] at h2
      obtain ⟨rfl, rfl, rfl, rfl⟩ := h2
      go_wp2
      exact bodyPost_ret (v := .tuple #[.slice AB bs.length cB, .slice AO os.length cO, .slice AT ts.length cT, .int .i64 0]) (by simp [results, Try.results22, go_sem]) rfl ⟨_, _, _, rfl, Kd.R_below VB.out HBX.out, Kd.R_below VO.out HBX.out, Kd.R_below VT.out HBX.out, Below.trans HB.out (Below.mono HBX.out (Below.size HB.out))⟩
 ·rw [if_neg hz] at h
  have h2 := Option.some.inj h
  simp only [Prod.mk.injEq] at h2
  obtain ⟨rfl, rfl, rfl, rfl⟩ := h2
  clear h he
  have e1 : (e == 0) = false := by simpa using hz
  have e2 : (e != 0) = true := by simpa using hz
  go_enter Try.func22, Try.ntmps22
  go_wp2_with (go_at_call 20; (with_reducible refine (merge_Check.calls A0 c0 l0 e _ HR0.out hc0 HE.out).mono ?_); rintro e_ w1 ⟨rfl, hb1⟩; have HB1 := Aside0.mk hb1; clear hb1)
  exact bodyPost_ret (v := .tuple #[.slice none 0 0, .slice none 0 0, .slice none 0 0, .int .i64 e]) (by simp [results, Try.results22, go_sem]) rfl ⟨_, _, _, rfl, Kd.R_nil _ _ _ _ _, Kd.R_nil _ _ _ _ _, Kd.R_nil _ _ _ _ _, HB1.out⟩
end Go.Proofs.Ytahpbpacjciddaa.Pr
end
