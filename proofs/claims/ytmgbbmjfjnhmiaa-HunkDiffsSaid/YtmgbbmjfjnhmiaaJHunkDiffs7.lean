/- Part 7 of the proof of HunkDiffs: texts put together. -/
import Derived.Test.YtmgbbmjfjnhmiaaJHunkDiffs4
import Derived.Test.YtmgbbmjfjnhmiaaJHunkDiffs6
namespace Go.Proofs.Ytmgbbmjfjnhmiaa.Pr
open Go.RowKit Go.Proofs.YtmgbbmjfjnhmiaaW.PrintWords Go.Proofs.YtmgbbmjfjnhmiaaW.PrintLast Go.Proofs.YtmgbbmjfjnhmiaaW.PrintMore
attribute [local go_sem] i64_w i32_w max2_int min2_int max_two min_two max_three min_three max_four min_four   
set_option linter.unusedVariables false
set_option linter.unusedSimpArgs false
def sidingref15_Fits.l0 : Nat → List ByteArray → List (S40) → Int → Option (Bool)
  | 0, _, _, _ => none
  | k + 1, x0, x1, x5 => if x5 < (x1.length : Int) then (if 0 ≤ x5 then (if (wrap64 (((rd_T40 x1 x5).f0) + (((rd_T40 x1 x5).f1).length : Int))) > (x0.length : Int) then (some false) else (if 0 ≤ ((rd_T40 x1 x5).f0) then (if ((rd_T40 x1 x5).f0) ≤ (wrap64 (((rd_T40 x1 x5).f0) + (((rd_T40 x1 x5).f1).length : Int))) then (if (wrap64 (((rd_T40 x1 x5).f0) + (((rd_T40 x1 x5).f1).length : Int))) ≤ (x0.length : Int) then ((sidingref13_Same.f k ((x0.take ((wrap64 (((rd_T40 x1 x5).f0) + (((rd_T40 x1 x5).f1).length : Int))) : Int).toNat).drop (((rd_T40 x1 x5).f0) : Int).toNat) ((rd_T40 x1 x5).f1)).bind fun t230 => (if t230 = true then (sidingref15_Fits.l0 k x0 x1 (wrap64 (x5 + 1))) else (some false))) else (none)) else (none)) else (none))) else (none)) else (some true)
def sidingref15_Fits.f (k : Nat) (l0 : List ByteArray) (l1 : List (S40)) : Option (Bool) := sidingref15_Fits.l0 k l0 l1 0
def sidingref15_Fits.T4 : Bool × List (List Nat × List Nat) := (true, [([], []), ([], []), ([0, 1], [0, 1]), ([2], [2]), ([3], [3]), ([], []), ([], []), ([5, 6], [5, 6]), ([7], [7]), ([8], [8]), ([9], [9]), ([4, 10], [4, 10]), ([], []), ([12], [12]), ([11, 13], [11, 13]), ([14], [14]), ([15], [15]), ([15], [15]), ([15], [15]), ([17, 18, 15], [15, 17, 18]), ([19, 15], [15, 19]), ([20, 15], [15, 20]), ([15], [15]), ([15], [15]), ([22, 23, 15], [15, 22, 23]), ([24, 15], [15, 24]), ([25, 15], [15, 25]), ([15], [15]), ([15], [15]), ([27, 28, 15], [15, 27, 28]), ([29, 15], [15, 29]), ([30, 15], [15, 30]), ([31, 15], [15, 31]), ([26, 32, 15], [15, 26, 32]), ([16, 21, 33, 15], [15, 16, 21, 33]), ([15], [15]), ([15], [15]), ([35, 36, 15], [15, 35, 36]), ([37, 15], [15, 37]), ([38, 15], [15, 38]), ([34, 39, 15, 15], [15, 34, 39]), ([40, 15], [15, 40]), ([15, 41], [15, 41])])
def sidingref15_Fits.B4 : List Nat := [0, 0, 3, 7, 15, 0, 0, 96, 224, 480, 992, 2047, 0, 4096, 16383, 32767, 65535, 65535, 65535, 458751, 983039, 2031615, 65535, 65535, 12648447, 29425663, 62980095, 65535, 65535, 402718719, 939589631, 2013331455, 4160815103, 8585805823, 17179869183, 65535, 65535, 103079280639, 240518234111, 515396141055, 1099511627775, 2199023255551, 4398046511103]
theorem sidingref15_Fits.tab4 : rtab .any (opsOf Try.f22 4) = sidingref15_Fits.T4 := by kernel_rfl
theorem sidingref15_Fits.bits4 : waitsOk sidingref15_Fits.T4.2 sidingref15_Fits.B4 = true := by kernel_rfl
abbrev sidingref15_Fits.Bz0 : Array Bool := #[false, false, false, false, false, false, false, false, false, false, false, false, false, false, false, false, false, false, false, false, false, false, false, false, false, false, false, false, false, false, false, false, false, false, false, false, false, false, false, false, false, false, false]
abbrev sidingref15_Fits.Bz1 : Array Bool := #[true, false, false, false, false, false, false, false, false, false, false, false, false, false, false, false, false, false, false, false, false, false, false, false, false, false, false, false, false, false, false, false, false, false, false, false, false, false, false, false, false, false, false]
abbrev sidingref15_Fits.Bz2 : Array Bool := #[true, true, false, false, false, false, false, false, false, false, false, false, false, false, false, false, false, false, false, false, false, false, false, false, false, false, false, false, false, false, false, false, false, false, false, false, false, false, false, false, false, false, false]
abbrev sidingref15_Fits.Bz3 : Array Bool := #[true, true, true, false, false, false, false, false, false, false, false, false, false, false, false, false, false, false, false, false, false, false, false, false, false, false, false, false, false, false, false, false, false, false, false, false, false, false, false, false, false, false, false]
abbrev sidingref15_Fits.Bz4 : Array Bool := #[true, true, true, true, false, false, false, false, false, false, false, false, false, false, false, false, false, false, false, false, false, false, false, false, false, false, false, false, false, false, false, false, false, false, false, false, false, false, false, false, false, false, false]
abbrev sidingref15_Fits.Bz5 : Array Bool := #[true, true, true, true, false, true, false, false, false, false, false, false, false, false, false, false, false, false, false, false, false, false, false, false, false, false, false, false, false, false, false, false, false, false, false, false, false, false, false, false, false, false, false]
abbrev sidingref15_Fits.Bz6 : Array Bool := #[true, true, true, true, false, true, true, false, false, false, false, false, false, false, false, false, false, false, false, false, false, false, false, false, false, false, false, false, false, false, false, false, false, false, false, false, false, false, false, false, false, false, false]
abbrev sidingref15_Fits.Bz7 : Array Bool := #[true, true, true, true, false, true, true, true, false, false, false, false, false, false, false, false, false, false, false, false, false, false, false, false, false, false, false, false, false, false, false, false, false, false, false, false, false, false, false, false, false, false, false]
abbrev sidingref15_Fits.Bz8 : Array Bool := #[true, true, true, true, false, true, true, true, true, false, false, false, false, false, false, false, false, false, false, false, false, false, false, false, false, false, false, false, false, false, false, false, false, false, false, false, false, false, false, false, false, false, false]
abbrev sidingref15_Fits.Bz9 : Array Bool := #[true, true, true, true, false, true, true, true, true, false, false, false, true, false, false, false, false, false, false, false, false, false, false, false, false, false, false, false, false, false, false, false, false, false, false, false, false, false, false, false, false, false, false]
abbrev sidingref15_Fits.Bz10 : Array Bool := #[true, true, true, true, false, true, true, true, true, false, false, false, true, true, false, false, false, false, false, false, false, false, false, false, false, false, false, false, false, false, false, false, false, false, false, false, false, false, false, false, false, false, false]
abbrev sidingref15_Fits.Bz11 : Array Bool := #[true, true, true, true, true, true, true, true, true, false, false, false, true, true, false, false, false, false, false, false, false, false, false, false, false, false, false, false, false, false, false, false, false, false, false, false, false, false, false, false, false, false, false]
abbrev sidingref15_Fits.Bz12 : Array Bool := #[true, true, true, true, true, true, true, true, true, true, false, false, true, true, false, false, false, false, false, false, false, false, false, false, false, false, false, false, false, false, false, false, false, false, false, false, false, false, false, false, false, false, false]
abbrev sidingref15_Fits.Bz13 : Array Bool := #[true, true, true, true, true, true, true, true, true, true, true, false, true, true, false, false, false, false, false, false, false, false, false, false, false, false, false, false, false, false, false, false, false, false, false, false, false, false, false, false, false, false, false]
abbrev sidingref15_Fits.Bz14 : Array Bool := #[true, true, true, true, true, true, true, true, true, true, true, true, true, true, false, false, false, false, false, false, false, false, false, false, false, false, false, false, false, false, false, false, false, false, false, false, false, false, false, false, false, false, false]
abbrev sidingref15_Fits.Bz15 : Array Bool := #[true, true, true, true, true, true, true, true, true, true, true, true, true, true, true, false, false, false, false, false, false, false, false, false, false, false, false, false, false, false, false, false, false, false, false, false, false, false, false, false, false, false, false]
abbrev sidingref15_Fits.Bz16 : Array Bool := #[true, true, true, true, true, true, true, true, true, true, true, true, true, true, true, true, false, false, false, false, false, false, false, false, false, false, false, false, false, false, false, false, false, false, false, false, false, false, false, false, false, false, false]
abbrev sidingref15_Fits.Bz17 : Array Bool := #[true, true, true, true, true, true, true, true, true, true, true, true, true, true, true, true, true, false, false, false, false, false, false, false, false, false, false, false, false, false, false, false, false, false, false, false, false, false, false, false, false, false, false]
abbrev sidingref15_Fits.Bz18 : Array Bool := #[true, true, true, true, true, true, true, true, true, true, true, true, true, true, true, true, true, true, false, false, false, false, false, false, false, false, false, false, false, false, false, false, false, false, false, false, false, false, false, false, false, false, false]
abbrev sidingref15_Fits.Bz19 : Array Bool := #[true, true, true, true, true, true, true, true, true, true, true, true, true, true, true, true, true, true, true, false, false, false, false, false, false, false, false, false, false, false, false, false, false, false, false, false, false, false, false, false, false, false, false]
abbrev sidingref15_Fits.Bz20 : Array Bool := #[true, true, true, true, true, true, true, true, true, true, true, true, true, true, true, true, true, true, true, true, false, false, false, false, false, false, false, false, false, false, false, false, false, false, false, false, false, false, false, false, false, false, false]
abbrev sidingref15_Fits.Bz21 : Array Bool := #[true, true, true, true, true, true, true, true, true, true, true, true, true, true, true, true, true, true, true, true, true, false, false, false, false, false, false, false, false, false, false, false, false, false, false, false, false, false, false, false, false, false, false]
abbrev sidingref15_Fits.Bz22 : Array Bool := #[true, true, true, true, true, true, true, true, true, true, true, true, true, true, true, true, true, true, true, true, true, true, true, true, true, true, true, true, true, true, true, true, true, true, true, true, true, true, true, false, false, false, false]
abbrev sidingref15_Fits.Bz23 : Array Bool := #[true, true, true, true, true, true, true, true, true, true, true, true, true, true, true, true, true, true, true, true, true, true, true, true, true, true, true, true, true, true, true, true, true, true, true, true, true, true, true, true, false, false, false]
abbrev sidingref15_Fits.Bz24 : Array Bool := #[true, true, true, true, true, true, true, true, true, true, true, true, true, true, true, true, true, true, true, true, true, true, true, true, true, true, true, true, true, true, true, true, true, true, true, true, true, true, true, true, true, false, false]
abbrev sidingref15_Fits.Bz25 : Array Bool := #[true, true, true, true, true, true, true, true, true, true, true, true, true, true, true, true, true, true, true, true, true, true, true, true, true, true, true, true, true, true, true, true, true, true, true, true, true, true, true, true, true, true, false]
abbrev sidingref15_Fits.Bz26 : Array Bool := #[true, true, true, true, true, true, true, true, true, true, true, true, true, true, true, true, true, true, true, true, true, true, true, true, true, true, true, true, true, true, true, true, true, true, true, true, true, true, true, true, true, true, true]
abbrev sidingref15_Fits.Bz27 : Array Bool := #[true, true, true, true, true, true, true, true, true, true, true, true, true, true, true, true, true, true, true, true, true, false, true, false, false, false, false, false, false, false, false, false, false, false, false, false, false, false, false, false, false, false, false]
abbrev sidingref15_Fits.Bz28 : Array Bool := #[true, true, true, true, true, true, true, true, true, true, true, true, true, true, true, true, true, true, true, true, true, false, true, true, false, false, false, false, false, false, false, false, false, false, false, false, false, false, false, false, false, false, false]
abbrev sidingref15_Fits.Bz29 : Array Bool := #[true, true, true, true, true, true, true, true, true, true, true, true, true, true, true, true, true, true, true, true, true, false, true, true, true, false, false, false, false, false, false, false, false, false, false, false, false, false, false, false, false, false, false]
abbrev sidingref15_Fits.Bz30 : Array Bool := #[true, true, true, true, true, true, true, true, true, true, true, true, true, true, true, true, true, true, true, true, true, false, true, true, true, true, false, false, false, false, false, false, false, false, false, false, false, false, false, false, false, false, false]
abbrev sidingref15_Fits.Bz31 : Array Bool := #[true, true, true, true, true, true, true, true, true, true, true, true, true, true, true, true, true, true, true, true, true, false, true, true, true, true, false, true, false, false, false, false, false, false, false, false, false, false, false, false, false, false, false]
abbrev sidingref15_Fits.Bz32 : Array Bool := #[true, true, true, true, true, true, true, true, true, true, true, true, true, true, true, true, true, true, true, true, true, false, true, true, true, true, false, true, true, false, false, false, false, false, false, false, false, false, false, false, false, false, false]
abbrev sidingref15_Fits.Bz33 : Array Bool := #[true, true, true, true, true, true, true, true, true, true, true, true, true, true, true, true, true, true, true, true, true, false, true, true, true, true, false, true, true, true, false, false, false, false, false, false, false, false, false, false, false, false, false]
abbrev sidingref15_Fits.Bz34 : Array Bool := #[true, true, true, true, true, true, true, true, true, true, true, true, true, true, true, true, true, true, true, true, true, false, true, true, true, true, false, true, true, true, true, false, false, false, false, false, false, false, false, false, false, false, false]
abbrev sidingref15_Fits.Bz35 : Array Bool := #[true, true, true, true, true, true, true, true, true, true, true, true, true, true, true, true, true, true, true, true, true, false, true, true, true, true, false, true, true, true, true, false, false, false, false, true, false, false, false, false, false, false, false]
abbrev sidingref15_Fits.Bz36 : Array Bool := #[true, true, true, true, true, true, true, true, true, true, true, true, true, true, true, true, true, true, true, true, true, false, true, true, true, true, false, true, true, true, true, false, false, false, false, true, true, false, false, false, false, false, false]
abbrev sidingref15_Fits.Bz37 : Array Bool := #[true, true, true, true, true, true, true, true, true, true, true, true, true, true, true, true, true, true, true, true, true, false, true, true, true, true, false, true, true, true, true, false, false, false, false, true, true, true, false, false, false, false, false]
abbrev sidingref15_Fits.Bz38 : Array Bool := #[true, true, true, true, true, true, true, true, true, true, true, true, true, true, true, true, true, true, true, true, true, false, true, true, true, true, false, true, true, true, true, false, false, false, false, true, true, true, true, false, false, false, false]
abbrev sidingref15_Fits.Bz39 : Array Bool := #[true, true, true, true, true, true, true, true, true, true, true, true, true, true, true, true, true, true, true, true, true, true, true, true, true, true, false, true, true, true, true, false, false, false, false, true, true, true, true, false, false, false, false]
abbrev sidingref15_Fits.Bz40 : Array Bool := #[true, true, true, true, true, true, true, true, true, true, true, true, true, true, true, true, true, true, true, true, true, true, true, true, true, true, true, true, true, true, true, false, false, false, false, true, true, true, true, false, false, false, false]
abbrev sidingref15_Fits.Bz41 : Array Bool := #[true, true, true, true, true, true, true, true, true, true, true, true, true, true, true, true, true, true, true, true, true, true, true, true, true, true, true, true, true, true, true, true, false, false, false, true, true, true, true, false, false, false, false]
abbrev sidingref15_Fits.Bz42 : Array Bool := #[true, true, true, true, true, true, true, true, true, true, true, true, true, true, true, true, true, true, true, true, true, true, true, true, true, true, true, true, true, true, true, true, true, false, false, true, true, true, true, false, false, false, false]
abbrev sidingref15_Fits.Bz43 : Array Bool := #[true, true, true, true, true, true, true, true, true, true, true, true, true, true, true, true, true, true, true, true, true, true, true, true, true, true, true, true, true, true, true, true, true, true, false, true, true, true, true, false, false, false, false]
open sidingref15_Fits in
set_option maxHeartbeats 8000000 in
set_option maxRecDepth 100000 in
theorem sidingref15_Fits.calls (k : Nat) (A0 : Option Addr) (c0 : Nat) (l0 : List ByteArray) (A1 : Option Addr) (c1 : Nat) (l1 : List (S40)) (r : Bool) (w : World) (hr0 : Kd.C Kd.string w A0 l0.length l0) (hc0 : l0.length ≤ c0) (hr1 : Kd.C k40 w A1 l1.length l1) (hc1 : l1.length ≤ c1) (h : sidingref15_Fits.f k l0 l1 = some r) :
  Calls Try.prog 22 #[.slice A0 l0.length c0, .slice A1 l1.length c1] w fun e w' => e = .returned (.bool r) ∧ Below w.heap.size w w' := by
 have HR0 := Aside0.mk hr0
 have HC0 := Aside0.mk hc0
 clear hr0 hc0
 have HR1 := Aside0.mk hr1
 have HC1 := Aside0.mk hc1
 clear hr1 hc1
 have HB := Aside0.mk (Below.refl w.heap.size w)
 have H : (sidingref15_Fits.l0 k l0 l1 0) = some r := h
 clear h
 have H' := Aside0.mk H
 clear H
 go_enter Try.func22, Try.ntmps22
 go_wp2
 go_loopg [5] k (fun kq v5 w' => ∃ (x5_1 : Int), v5 = .int .i64 x5_1 ∧ Aside0 (sidingref15_Fits.l0 kq l0 l1 x5_1 = some r) ∧ Aside0 (kq ≤ k) ∧ Aside0 (Below w.heap.size w w'))
 case atStart => exact ⟨(0), (by first | rfl | (simp; done) | (simp [*]; done)), H', ⟨Nat.le_refl _⟩, ⟨by repeat (first | (with_reducible first | exact HB.out | apply below_alloc | apply pw_below_drewN | apply below_drew1) | exact HB.out)⟩⟩
 case round =>
  clear H'
  try clear c1
  try clear c2
  try clear p2
  obtain ⟨x5_1, rfl, HA, HK1, HB⟩ := hrel
  cases gk with
  | zero => exact absurd HA.out (by simp [sidingref15_Fits.l0])
  | succ k1 =>
   have H := HA.out
   clear HA
   simp only [sidingref15_Fits.l0] at H
   by_cases c3 : x5_1 < (l1.length : Int)
   ·rw [if_pos c3] at H
    have c3b0 : decide (x5_1 < (l1.length : Int)) = true := decide_eq_true c3
    clear c3
    by_cases c4 : 0 ≤ x5_1
    ·rw [if_pos c4] at H
     have c4b0 : decide (0 ≤ x5_1) = true := decide_eq_true c4
     clear c4
     by_cases c5 : (wrap64 (((rd_T40 l1 x5_1).f0) + (((rd_T40 l1 x5_1).f1).length : Int))) > (l0.length : Int)
     ·rw [if_pos c5] at H
      have c5b0 : decide ((l0.length : Int) < (wrap64 (((rd_T40 l1 x5_1).f0) + (((rd_T40 l1 x5_1).f1).length : Int)))) = true := decide_eq_true c5
      clear c5
      obtain rfl := Option.some.inj H
      try go_wp2
      have n0_ := Aside0.mk (below_drew1 HB.out)
      clear HB
      have HB := n0_
      clear n0_
      have p223 : 0 ≤ (x5_1 : Int) := of_decide_eq_true (by first | (with_reducible assumption) | assumption)
      have q223 : x5_1 < (l1.length : Int) := of_decide_eq_true (by first | (with_reducible assumption) | assumption)
      obtain ⟨ad223, A223_1, c223_1, A223_2, c223_2, e223, hx223_0, hx223_1, hx223_2, hl223_1, hi223_1, hl223_2, hi223_2⟩ := at_T40 HR1.out x5_1 p223 q223
      have hw223_2 := hx223_2
      have hw223_1 := hx223_1
      have hw223_0 := hx223_0
      cases e223
      replace hx223_0 := (HB.out.cell (World.block_lt_of_cell? w _ hx223_0)).trans hx223_0
      replace hx223_1 := (HB.out.cell (World.block_lt_of_cell? w _ hx223_1)).trans hx223_1
      replace hx223_2 := (HB.out.cell (World.block_lt_of_cell? w _ hx223_2)).trans hx223_2
      have HR223_1 := Aside0.mk hi223_1
      have HC223_1 := Aside0.mk hl223_1
      clear hi223_1 hl223_1
      have HR223_2 := Aside0.mk hi223_2
      have HC223_2 := Aside0.mk hl223_2
      clear hi223_2 hl223_2
      replace p223 := eq_true p223
      replace q223 := eq_true q223
      have p224 : 0 ≤ (x5_1 : Int) := of_decide_eq_true (by first | (with_reducible assumption) | assumption)
      have q224 : x5_1 < (l1.length : Int) := of_decide_eq_true (by first | (with_reducible assumption) | assumption)
      obtain ⟨ad224, A224_1, c224_1, A224_2, c224_2, e224, hx224_0, hx224_1, hx224_2, hl224_1, hi224_1, hl224_2, hi224_2⟩ := at_T40 HR1.out x5_1 p224 q224
      have hw224_2 := hx224_2
      have hw224_1 := hx224_1
      have hw224_0 := hx224_0
      obtain rfl : ad223 = ad224 := (by injection e224)
      replace hx224_0 := (HB.out.cell (World.block_lt_of_cell? w _ hx224_0)).trans hx224_0
      replace hx224_1 := (HB.out.cell (World.block_lt_of_cell? w _ hx224_1)).trans hx224_1
      replace hx224_2 := (HB.out.cell (World.block_lt_of_cell? w _ hx224_2)).trans hx224_2
      have HR224_1 := Aside0.mk hi224_1
      have HC224_1 := Aside0.mk hl224_1
      clear hi224_1 hl224_1
      have HR224_2 := Aside0.mk hi224_2
      have HC224_2 := Aside0.mk hl224_2
      clear hi224_2 hl224_2
      replace p224 := eq_true p224
      replace q224 := eq_true q224
      have ea_ := Option.some.inj (hx223_1.symm.trans hx224_1)
      injection ea_ with ea_ en_ ec_
      subst ea_
      subst ec_
      clear en_
      have ea_ := Option.some.inj (hx223_2.symm.trans hx224_2)
      injection ea_ with ea_ en_ ec_
      subst ea_
      subst ec_
      clear en_
      refine start_ (n := 43) (S := fun w' => w'.cell? (ad223.add ((x5_1).toNat * 3)) = some (.int .i64 ((rd_T40 l1 x5_1).f0)) ∧ w'.cell? ⟨(ad223.add ((x5_1).toNat * 3)).block, (ad223.add ((x5_1).toNat * 3)).off + 1, none⟩ = some (.slice A223_1 ((rd_T40 l1 x5_1).f1).length c223_1) ∧ w'.cell? ⟨(ad223.add ((x5_1).toNat * 3)).block, (ad223.add ((x5_1).toNat * 3)).off + 2, none⟩ = some (.slice A223_2 ((rd_T40 l1 x5_1).f2).length c223_2) ∧ w'.cell? (ad223.add ((x5_1).toNat * 3)) = some (.int .i64 ((rd_T40 l1 x5_1).f0)) ∧ w'.cell? ⟨(ad223.add ((x5_1).toNat * 3)).block, (ad223.add ((x5_1).toNat * 3)).off + 1, none⟩ = some (.slice A223_1 ((rd_T40 l1 x5_1).f1).length c223_1) ∧ w'.cell? ⟨(ad223.add ((x5_1).toNat * 3)).block, (ad223.add ((x5_1).toNat * 3)).off + 2, none⟩ = some (.slice A223_2 ((rd_T40 l1 x5_1).f2).length c223_2)) (ds := []) Bz0 (by kernel_rfl) rfl rfl ⟨((HB.out.cell (World.block_lt_of_cell? w _ hw223_0)).trans hw223_0), ((HB.out.cell (World.block_lt_of_cell? w _ hw223_1)).trans hw223_1), ((HB.out.cell (World.block_lt_of_cell? w _ hw223_2)).trans hw223_2), ((HB.out.cell (World.block_lt_of_cell? w _ hw224_0)).trans hw224_0), ((HB.out.cell (World.block_lt_of_cell? w _ hw224_1)).trans hw224_1), ((HB.out.cell (World.block_lt_of_cell? w _ hw224_2)).trans hw224_2)⟩ (fun hHeld => ?_); refine with_tabW sidingref15_Fits.tab4 sidingref15_Fits.bits4 (fun HT_ HW_ => ?_)
      generalize wr.drew = w6 at HB HR223_1 HR223_2 HR224_1 HR224_2 hx223_0 hx223_1 hx223_2 hx224_0 hx224_1 hx224_2 hHeld ⊢
      refine pu 0 12 Bz1 rfl rfl (any_of HT_.out (by kernel_rfl)) ?_
      refine pu 1 13 Bz2 rfl rfl (any_of HT_.out (by kernel_rfl)) ?_
      refine pu 2 14 Bz3 rfl rfl (any_of HT_.out (by kernel_rfl)) ?_
      refine pu 3 15 Bz4 rfl rfl (any_of HT_.out (by kernel_rfl)) ?_
      refine pu 5 17 Bz5 rfl rfl (any_of HT_.out (by kernel_rfl)) ?_
      refine pu 6 18 Bz6 rfl rfl (any_of HT_.out (by kernel_rfl)) ?_
      refine pu 7 19 Bz7 rfl rfl (any_of HT_.out (by kernel_rfl)) ?_
      refine pu 8 20 Bz8 rfl rfl (any_of HT_.out (by kernel_rfl)) ?_
      refine pu 12 24 Bz9 rfl rfl (any_of HT_.out (by kernel_rfl)) ?_
      refine pu 13 25 Bz10 rfl rfl (any_of HT_.out (by kernel_rfl)) ?_
      refine take_ (i := 4) (N := some 16) (v := ?_) (a' := ?_) Bz11 rfl rfl (take_ofW HT_.out HW_.out (by kernel_rfl)) (fun _ _ _ h => h) (Or.inl ⟨by rfl, ?_⟩) hHeld ?_ ?_; rotate_left; (focus rintro w' ⟨s0, s1, s2, s3, s4, s5⟩; go_simp; with_reducible rfl); rotate_left; (focus go_simp; rfl)
      refine take_ (i := 9) (N := some 21) (v := ?_) (a' := ?_) Bz12 rfl rfl (take_ofW HT_.out HW_.out (by kernel_rfl)) (fun _ _ _ h => h) (Or.inl ⟨by rfl, ?_⟩) hHeld ?_ ?_; rotate_left; (focus rintro w' ⟨s0, s1, s2, s3, s4, s5⟩; go_simp; with_reducible rfl); rotate_left; (focus go_simp; rfl)
      refine pu 10 22 Bz13 rfl rfl (any_of HT_.out (by kernel_rfl)) ?_
      refine pu 11 23 Bz14 rfl rfl (any_of HT_.out (by kernel_rfl)) ?_
      refine pu 14 26 Bz15 rfl rfl (any_of HT_.out (by kernel_rfl)) ?_
      refine pu 15 27 Bz16 rfl rfl (any_of HT_.out (by kernel_rfl)) ?_
      refine po 16 28 Bz17 rfl rfl (any_of HT_.out (by kernel_rfl)) ?_
      refine po 17 29 Bz18 rfl rfl (any_of HT_.out (by kernel_rfl)) ?_
      refine po 18 30 Bz19 rfl rfl (any_of HT_.out (by kernel_rfl)) ?_
      refine po 19 31 Bz20 rfl rfl (any_of HT_.out (by kernel_rfl)) ?_
      refine po 20 32 Bz21 rfl rfl (any_of HT_.out (by kernel_rfl)) ?_
      refine po 21 33 #[true, true, true, true, true, true, true, true, true, true, true, true, true, true, true, true, true, true, true, true, true, true, false, false, false, false, false, false, false, false, false, false, false, false, false, false, false, false, false, false, false, false, false] rfl rfl (any_of HT_.out (by kernel_rfl)) ?_
      refine po 22 34 #[true, true, true, true, true, true, true, true, true, true, true, true, true, true, true, true, true, true, true, true, true, true, true, false, false, false, false, false, false, false, false, false, false, false, false, false, false, false, false, false, false, false, false] rfl rfl (any_of HT_.out (by kernel_rfl)) ?_
      refine po 23 35 #[true, true, true, true, true, true, true, true, true, true, true, true, true, true, true, true, true, true, true, true, true, true, true, true, false, false, false, false, false, false, false, false, false, false, false, false, false, false, false, false, false, false, false] rfl rfl (any_of HT_.out (by kernel_rfl)) ?_
      refine po 24 36 #[true, true, true, true, true, true, true, true, true, true, true, true, true, true, true, true, true, true, true, true, true, true, true, true, true, false, false, false, false, false, false, false, false, false, false, false, false, false, false, false, false, false, false] rfl rfl (any_of HT_.out (by kernel_rfl)) ?_
      refine po 25 37 #[true, true, true, true, true, true, true, true, true, true, true, true, true, true, true, true, true, true, true, true, true, true, true, true, true, true, false, false, false, false, false, false, false, false, false, false, false, false, false, false, false, false, false] rfl rfl (any_of HT_.out (by kernel_rfl)) ?_
      refine po 26 38 #[true, true, true, true, true, true, true, true, true, true, true, true, true, true, true, true, true, true, true, true, true, true, true, true, true, true, true, false, false, false, false, false, false, false, false, false, false, false, false, false, false, false, false] rfl rfl (any_of HT_.out (by kernel_rfl)) ?_
      refine po 27 39 #[true, true, true, true, true, true, true, true, true, true, true, true, true, true, true, true, true, true, true, true, true, true, true, true, true, true, true, true, false, false, false, false, false, false, false, false, false, false, false, false, false, false, false] rfl rfl (any_of HT_.out (by kernel_rfl)) ?_
      refine po 28 40 #[true, true, true, true, true, true, true, true, true, true, true, true, true, true, true, true, true, true, true, true, true, true, true, true, true, true, true, true, true, false, false, false, false, false, false, false, false, false, false, false, false, false, false] rfl rfl (any_of HT_.out (by kernel_rfl)) ?_
      refine po 29 41 #[true, true, true, true, true, true, true, true, true, true, true, true, true, true, true, true, true, true, true, true, true, true, true, true, true, true, true, true, true, true, false, false, false, false, false, false, false, false, false, false, false, false, false] rfl rfl (any_of HT_.out (by kernel_rfl)) ?_
      refine po 30 42 #[true, true, true, true, true, true, true, true, true, true, true, true, true, true, true, true, true, true, true, true, true, true, true, true, true, true, true, true, true, true, true, false, false, false, false, false, false, false, false, false, false, false, false] rfl rfl (any_of HT_.out (by kernel_rfl)) ?_
      refine po 31 43 #[true, true, true, true, true, true, true, true, true, true, true, true, true, true, true, true, true, true, true, true, true, true, true, true, true, true, true, true, true, true, true, true, false, false, false, false, false, false, false, false, false, false, false] rfl rfl (any_of HT_.out (by kernel_rfl)) ?_
      refine po 32 44 #[true, true, true, true, true, true, true, true, true, true, true, true, true, true, true, true, true, true, true, true, true, true, true, true, true, true, true, true, true, true, true, true, true, false, false, false, false, false, false, false, false, false, false] rfl rfl (any_of HT_.out (by kernel_rfl)) ?_
      refine po 33 45 #[true, true, true, true, true, true, true, true, true, true, true, true, true, true, true, true, true, true, true, true, true, true, true, true, true, true, true, true, true, true, true, true, true, true, false, false, false, false, false, false, false, false, false] rfl rfl (any_of HT_.out (by kernel_rfl)) ?_
      refine po 34 46 #[true, true, true, true, true, true, true, true, true, true, true, true, true, true, true, true, true, true, true, true, true, true, true, true, true, true, true, true, true, true, true, true, true, true, true, false, false, false, false, false, false, false, false] rfl rfl (any_of HT_.out (by kernel_rfl)) ?_
      refine po 35 47 #[true, true, true, true, true, true, true, true, true, true, true, true, true, true, true, true, true, true, true, true, true, true, true, true, true, true, true, true, true, true, true, true, true, true, true, true, false, false, false, false, false, false, false] rfl rfl (any_of HT_.out (by kernel_rfl)) ?_
      refine po 36 48 #[true, true, true, true, true, true, true, true, true, true, true, true, true, true, true, true, true, true, true, true, true, true, true, true, true, true, true, true, true, true, true, true, true, true, true, true, true, false, false, false, false, false, false] rfl rfl (any_of HT_.out (by kernel_rfl)) ?_
      refine po 37 49 #[true, true, true, true, true, true, true, true, true, true, true, true, true, true, true, true, true, true, true, true, true, true, true, true, true, true, true, true, true, true, true, true, true, true, true, true, true, true, false, false, false, false, false] rfl rfl (any_of HT_.out (by kernel_rfl)) ?_
      refine po 38 50 Bz22 rfl rfl (any_of HT_.out (by kernel_rfl)) ?_
      refine po 39 51 Bz23 rfl rfl (any_of HT_.out (by kernel_rfl)) ?_
      refine po 40 52 Bz24 rfl rfl (any_of HT_.out (by kernel_rfl)) ?_
      refine po 41 53 Bz25 rfl rfl (any_of HT_.out (by kernel_rfl)) ?_
      refine pu 42 54 Bz26 rfl rfl (any_of HT_.out (by kernel_rfl)) ?_
      refine done_ (done_of HT_.out (by kernel_rfl)) ?_
      try go_wp2
      go_ret
      exact ⟨by first | rfl | (simp [errW_none, errW_some] <;> rfl) | (simp [*, errW_none, errW_some] <;> rfl), by repeat (first | (with_reducible first | exact HB.out | apply below_alloc | apply pw_below_drewN | apply below_drew1) | exact HB.out)⟩
     ·rw [if_neg c5] at H
      have c5b0 : decide ((l0.length : Int) < (wrap64 (((rd_T40 l1 x5_1).f0) + (((rd_T40 l1 x5_1).f1).length : Int)))) = false := decide_eq_false c5
      clear c5
      by_cases c7 : 0 ≤ ((rd_T40 l1 x5_1).f0)
      ·rw [if_pos c7] at H
       have c7b0 := eq_true c7
       have c7b1 : decide (0 ≤ ((rd_T40 l1 x5_1).f0)) = true := decide_eq_true c7
       clear c7
       by_cases c8 : ((rd_T40 l1 x5_1).f0) ≤ (wrap64 (((rd_T40 l1 x5_1).f0) + (((rd_T40 l1 x5_1).f1).length : Int)))
       ·rw [if_pos c8] at H
        have c8b0 := eq_true c8
        have c8b1 : decide (((rd_T40 l1 x5_1).f0) ≤ (wrap64 (((rd_T40 l1 x5_1).f0) + (((rd_T40 l1 x5_1).f1).length : Int)))) = true := decide_eq_true c8
        by_cases c9 : (wrap64 (((rd_T40 l1 x5_1).f0) + (((rd_T40 l1 x5_1).f1).length : Int))) ≤ (l0.length : Int)
        ·rw [if_pos c9] at H
         have c9b0 := eq_true c9
         have c9b1 : decide ((wrap64 (((rd_T40 l1 x5_1).f0) + (((rd_T40 l1 x5_1).f1).length : Int))) ≤ (l0.length : Int)) = true := decide_eq_true c9
         (try have c9m := Aside0.mk (Nat.min_eq_left (Int.toNat_le.2 c9)))
         replace H := Option.bind_eq_some_iff.mp H
         obtain ⟨t230, A100, H⟩ := H
         replace H : (if t230 = true then (sidingref15_Fits.l0 k1 l0 l1 (wrap64 (x5_1 + 1))) else (some false)) = some r := H
         have A10 := Aside0.mk A100
         clear A100
         by_cases c11 : t230 = true
         ·subst c11
          have H1 : (sidingref15_Fits.l0 k1 l0 l1 (wrap64 (x5_1 + 1))) = some r := by rw [if_pos rfl] at H; exact H
          clear H
          have H := H1
          clear H1
          have H' := Aside0.mk H
          clear H
          try go_wp2
          have n0_ := Aside0.mk (below_drew1 HB.out)
          clear HB
          have HB := n0_
          clear n0_
          have p223 : 0 ≤ (x5_1 : Int) := of_decide_eq_true (by first | (with_reducible assumption) | assumption)
          have q223 : x5_1 < (l1.length : Int) := of_decide_eq_true (by first | (with_reducible assumption) | assumption)
          obtain ⟨ad223, A223_1, c223_1, A223_2, c223_2, e223, hx223_0, hx223_1, hx223_2, hl223_1, hi223_1, hl223_2, hi223_2⟩ := at_T40 HR1.out x5_1 p223 q223
          have hw223_2 := hx223_2
          have hw223_1 := hx223_1
          have hw223_0 := hx223_0
          cases e223
          replace hx223_0 := (HB.out.cell (World.block_lt_of_cell? w _ hx223_0)).trans hx223_0
          replace hx223_1 := (HB.out.cell (World.block_lt_of_cell? w _ hx223_1)).trans hx223_1
          replace hx223_2 := (HB.out.cell (World.block_lt_of_cell? w _ hx223_2)).trans hx223_2
          have HR223_1 := Aside0.mk hi223_1
          have HC223_1 := Aside0.mk hl223_1
          clear hi223_1 hl223_1
          have HR223_2 := Aside0.mk hi223_2
          have HC223_2 := Aside0.mk hl223_2
          clear hi223_2 hl223_2
          replace p223 := eq_true p223
          replace q223 := eq_true q223
          have p224 : 0 ≤ (x5_1 : Int) := of_decide_eq_true (by first | (with_reducible assumption) | assumption)
          have q224 : x5_1 < (l1.length : Int) := of_decide_eq_true (by first | (with_reducible assumption) | assumption)
          obtain ⟨ad224, A224_1, c224_1, A224_2, c224_2, e224, hx224_0, hx224_1, hx224_2, hl224_1, hi224_1, hl224_2, hi224_2⟩ := at_T40 HR1.out x5_1 p224 q224
          have hw224_2 := hx224_2
          have hw224_1 := hx224_1
          have hw224_0 := hx224_0
          obtain rfl : ad223 = ad224 := (by injection e224)
          replace hx224_0 := (HB.out.cell (World.block_lt_of_cell? w _ hx224_0)).trans hx224_0
          replace hx224_1 := (HB.out.cell (World.block_lt_of_cell? w _ hx224_1)).trans hx224_1
          replace hx224_2 := (HB.out.cell (World.block_lt_of_cell? w _ hx224_2)).trans hx224_2
          have HR224_1 := Aside0.mk hi224_1
          have HC224_1 := Aside0.mk hl224_1
          clear hi224_1 hl224_1
          have HR224_2 := Aside0.mk hi224_2
          have HC224_2 := Aside0.mk hl224_2
          clear hi224_2 hl224_2
          replace p224 := eq_true p224
          replace q224 := eq_true q224
          have ea_ := Option.some.inj (hx223_1.symm.trans hx224_1)
          injection ea_ with ea_ en_ ec_
          subst ea_
          subst ec_
          clear en_
          have ea_ := Option.some.inj (hx223_2.symm.trans hx224_2)
          injection ea_ with ea_ en_ ec_
          subst ea_
          subst ec_
          clear en_
          have p225 : 0 ≤ (x5_1 : Int) := of_decide_eq_true (by first | (with_reducible assumption) | assumption)
          have q225 : x5_1 < (l1.length : Int) := of_decide_eq_true (by first | (with_reducible assumption) | assumption)
          obtain ⟨ad225, A225_1, c225_1, A225_2, c225_2, e225, hx225_0, hx225_1, hx225_2, hl225_1, hi225_1, hl225_2, hi225_2⟩ := at_T40 HR1.out x5_1 p225 q225
          have hw225_2 := hx225_2
          have hw225_1 := hx225_1
          have hw225_0 := hx225_0
          obtain rfl : ad223 = ad225 := (by injection e225)
          replace hx225_0 := (HB.out.cell (World.block_lt_of_cell? w _ hx225_0)).trans hx225_0
          replace hx225_1 := (HB.out.cell (World.block_lt_of_cell? w _ hx225_1)).trans hx225_1
          replace hx225_2 := (HB.out.cell (World.block_lt_of_cell? w _ hx225_2)).trans hx225_2
          have HR225_1 := Aside0.mk hi225_1
          have HC225_1 := Aside0.mk hl225_1
          clear hi225_1 hl225_1
          have HR225_2 := Aside0.mk hi225_2
          have HC225_2 := Aside0.mk hl225_2
          clear hi225_2 hl225_2
          replace p225 := eq_true p225
          replace q225 := eq_true q225
          have ea_ := Option.some.inj (hx223_1.symm.trans hx225_1)
          injection ea_ with ea_ en_ ec_
          subst ea_
          subst ec_
          clear en_
          have ea_ := Option.some.inj (hx223_2.symm.trans hx225_2)
          injection ea_ with ea_ en_ ec_
          subst ea_
          subst ec_
          clear en_
          have p226 : 0 ≤ (x5_1 : Int) := of_decide_eq_true (by first | (with_reducible assumption) | assumption)
          have q226 : x5_1 < (l1.length : Int) := of_decide_eq_true (by first | (with_reducible assumption) | assumption)
          obtain ⟨ad226, A226_1, c226_1, A226_2, c226_2, e226, hx226_0, hx226_1, hx226_2, hl226_1, hi226_1, hl226_2, hi226_2⟩ := at_T40 HR1.out x5_1 p226 q226
          have hw226_2 := hx226_2
          have hw226_1 := hx226_1
          have hw226_0 := hx226_0
          obtain rfl : ad223 = ad226 := (by injection e226)
          replace hx226_0 := (HB.out.cell (World.block_lt_of_cell? w _ hx226_0)).trans hx226_0
          replace hx226_1 := (HB.out.cell (World.block_lt_of_cell? w _ hx226_1)).trans hx226_1
          replace hx226_2 := (HB.out.cell (World.block_lt_of_cell? w _ hx226_2)).trans hx226_2
          have HR226_1 := Aside0.mk hi226_1
          have HC226_1 := Aside0.mk hl226_1
          clear hi226_1 hl226_1
          have HR226_2 := Aside0.mk hi226_2
          have HC226_2 := Aside0.mk hl226_2
          clear hi226_2 hl226_2
          replace p226 := eq_true p226
          replace q226 := eq_true q226
          have ea_ := Option.some.inj (hx223_1.symm.trans hx226_1)
          injection ea_ with ea_ en_ ec_
          subst ea_
          subst ec_
          clear en_
          have ea_ := Option.some.inj (hx223_2.symm.trans hx226_2)
          injection ea_ with ea_ en_ ec_
          subst ea_
          subst ec_
          clear en_
          have p227 : 0 ≤ (x5_1 : Int) := of_decide_eq_true (by first | (with_reducible assumption) | assumption)
          have q227 : x5_1 < (l1.length : Int) := of_decide_eq_true (by first | (with_reducible assumption) | assumption)
          obtain ⟨ad227, A227_1, c227_1, A227_2, c227_2, e227, hx227_0, hx227_1, hx227_2, hl227_1, hi227_1, hl227_2, hi227_2⟩ := at_T40 HR1.out x5_1 p227 q227
          have hw227_2 := hx227_2
          have hw227_1 := hx227_1
          have hw227_0 := hx227_0
          obtain rfl : ad223 = ad227 := (by injection e227)
          replace hx227_0 := (HB.out.cell (World.block_lt_of_cell? w _ hx227_0)).trans hx227_0
          replace hx227_1 := (HB.out.cell (World.block_lt_of_cell? w _ hx227_1)).trans hx227_1
          replace hx227_2 := (HB.out.cell (World.block_lt_of_cell? w _ hx227_2)).trans hx227_2
          have HR227_1 := Aside0.mk hi227_1
          have HC227_1 := Aside0.mk hl227_1
          clear hi227_1 hl227_1
          have HR227_2 := Aside0.mk hi227_2
          have HC227_2 := Aside0.mk hl227_2
          clear hi227_2 hl227_2
          replace p227 := eq_true p227
          replace q227 := eq_true q227
          have ea_ := Option.some.inj (hx223_1.symm.trans hx227_1)
          injection ea_ with ea_ en_ ec_
          subst ea_
          subst ec_
          clear en_
          have ea_ := Option.some.inj (hx223_2.symm.trans hx227_2)
          injection ea_ with ea_ en_ ec_
          subst ea_
          subst ec_
          clear en_
          obtain ⟨i013, hi013, _, hsz13, _⟩ := info_parts info9
          obtain ⟨A13, hcut13, hA13, hC13⟩ := print_mid_of (P := Try.prog) Value.string (⟨#[]⟩ : ByteArray) 22 9 .i64 .i64 Try.underlying22 hi013 hsz13 A0 c0 l0 ((rd_T40 l1 x5_1).f0) (wrap64 (((rd_T40 l1 x5_1).f0) + (((rd_T40 l1 x5_1).f1).length : Int))) (of_decide_eq_true (by first | (with_reducible assumption) | assumption)) (by first | omega | exact of_decide_eq_true (by first | (with_reducible assumption) | assumption)) (of_decide_eq_true (by first | (with_reducible assumption) | assumption)) HC0.out
          have HR228 := Aside0.mk (Kd.C_of_reads (h1 := fun _ => rfl) (hA13 _ (Kd.reads_of_C HR0.out)))
          have HC228 := Aside0.mk hC13
          clear hA13 hC13 hi013 hsz13
          have p229 : 0 ≤ (x5_1 : Int) := of_decide_eq_true (by first | (with_reducible assumption) | assumption)
          have q229 : x5_1 < (l1.length : Int) := of_decide_eq_true (by first | (with_reducible assumption) | assumption)
          obtain ⟨ad229, A229_1, c229_1, A229_2, c229_2, e229, hx229_0, hx229_1, hx229_2, hl229_1, hi229_1, hl229_2, hi229_2⟩ := at_T40 HR1.out x5_1 p229 q229
          have hw229_2 := hx229_2
          have hw229_1 := hx229_1
          have hw229_0 := hx229_0
          obtain rfl : ad223 = ad229 := (by injection e229)
          replace hx229_0 := (HB.out.cell (World.block_lt_of_cell? w _ hx229_0)).trans hx229_0
          replace hx229_1 := (HB.out.cell (World.block_lt_of_cell? w _ hx229_1)).trans hx229_1
          replace hx229_2 := (HB.out.cell (World.block_lt_of_cell? w _ hx229_2)).trans hx229_2
          have HR229_1 := Aside0.mk hi229_1
          have HC229_1 := Aside0.mk hl229_1
          clear hi229_1 hl229_1
          have HR229_2 := Aside0.mk hi229_2
          have HC229_2 := Aside0.mk hl229_2
          clear hi229_2 hl229_2
          replace p229 := eq_true p229
          replace q229 := eq_true q229
          have ea_ := Option.some.inj (hx223_1.symm.trans hx229_1)
          injection ea_ with ea_ en_ ec_
          subst ea_
          subst ec_
          clear en_
          have ea_ := Option.some.inj (hx223_2.symm.trans hx229_2)
          injection ea_ with ea_ en_ ec_
          subst ea_
          subst ec_
          clear en_
          refine start_ (n := 43) (S := fun w' => w'.cell? (ad223.add ((x5_1).toNat * 3)) = some (.int .i64 ((rd_T40 l1 x5_1).f0)) ∧ w'.cell? ⟨(ad223.add ((x5_1).toNat * 3)).block, (ad223.add ((x5_1).toNat * 3)).off + 1, none⟩ = some (.slice A223_1 ((rd_T40 l1 x5_1).f1).length c223_1) ∧ w'.cell? ⟨(ad223.add ((x5_1).toNat * 3)).block, (ad223.add ((x5_1).toNat * 3)).off + 2, none⟩ = some (.slice A223_2 ((rd_T40 l1 x5_1).f2).length c223_2) ∧ w'.cell? (ad223.add ((x5_1).toNat * 3)) = some (.int .i64 ((rd_T40 l1 x5_1).f0)) ∧ w'.cell? ⟨(ad223.add ((x5_1).toNat * 3)).block, (ad223.add ((x5_1).toNat * 3)).off + 1, none⟩ = some (.slice A223_1 ((rd_T40 l1 x5_1).f1).length c223_1) ∧ w'.cell? ⟨(ad223.add ((x5_1).toNat * 3)).block, (ad223.add ((x5_1).toNat * 3)).off + 2, none⟩ = some (.slice A223_2 ((rd_T40 l1 x5_1).f2).length c223_2) ∧ w'.cell? (ad223.add ((x5_1).toNat * 3)) = some (.int .i64 ((rd_T40 l1 x5_1).f0)) ∧ w'.cell? ⟨(ad223.add ((x5_1).toNat * 3)).block, (ad223.add ((x5_1).toNat * 3)).off + 1, none⟩ = some (.slice A223_1 ((rd_T40 l1 x5_1).f1).length c223_1) ∧ w'.cell? ⟨(ad223.add ((x5_1).toNat * 3)).block, (ad223.add ((x5_1).toNat * 3)).off + 2, none⟩ = some (.slice A223_2 ((rd_T40 l1 x5_1).f2).length c223_2) ∧ w'.cell? (ad223.add ((x5_1).toNat * 3)) = some (.int .i64 ((rd_T40 l1 x5_1).f0)) ∧ w'.cell? ⟨(ad223.add ((x5_1).toNat * 3)).block, (ad223.add ((x5_1).toNat * 3)).off + 1, none⟩ = some (.slice A223_1 ((rd_T40 l1 x5_1).f1).length c223_1) ∧ w'.cell? ⟨(ad223.add ((x5_1).toNat * 3)).block, (ad223.add ((x5_1).toNat * 3)).off + 2, none⟩ = some (.slice A223_2 ((rd_T40 l1 x5_1).f2).length c223_2) ∧ w'.cell? (ad223.add ((x5_1).toNat * 3)) = some (.int .i64 ((rd_T40 l1 x5_1).f0)) ∧ w'.cell? ⟨(ad223.add ((x5_1).toNat * 3)).block, (ad223.add ((x5_1).toNat * 3)).off + 1, none⟩ = some (.slice A223_1 ((rd_T40 l1 x5_1).f1).length c223_1) ∧ w'.cell? ⟨(ad223.add ((x5_1).toNat * 3)).block, (ad223.add ((x5_1).toNat * 3)).off + 2, none⟩ = some (.slice A223_2 ((rd_T40 l1 x5_1).f2).length c223_2) ∧ w'.cell? (ad223.add ((x5_1).toNat * 3)) = some (.int .i64 ((rd_T40 l1 x5_1).f0)) ∧ w'.cell? ⟨(ad223.add ((x5_1).toNat * 3)).block, (ad223.add ((x5_1).toNat * 3)).off + 1, none⟩ = some (.slice A223_1 ((rd_T40 l1 x5_1).f1).length c223_1) ∧ w'.cell? ⟨(ad223.add ((x5_1).toNat * 3)).block, (ad223.add ((x5_1).toNat * 3)).off + 2, none⟩ = some (.slice A223_2 ((rd_T40 l1 x5_1).f2).length c223_2)) (ds := []) Bz0 (by kernel_rfl) rfl rfl ⟨((HB.out.cell (World.block_lt_of_cell? w _ hw223_0)).trans hw223_0), ((HB.out.cell (World.block_lt_of_cell? w _ hw223_1)).trans hw223_1), ((HB.out.cell (World.block_lt_of_cell? w _ hw223_2)).trans hw223_2), ((HB.out.cell (World.block_lt_of_cell? w _ hw224_0)).trans hw224_0), ((HB.out.cell (World.block_lt_of_cell? w _ hw224_1)).trans hw224_1), ((HB.out.cell (World.block_lt_of_cell? w _ hw224_2)).trans hw224_2), ((HB.out.cell (World.block_lt_of_cell? w _ hw225_0)).trans hw225_0), ((HB.out.cell (World.block_lt_of_cell? w _ hw225_1)).trans hw225_1), ((HB.out.cell (World.block_lt_of_cell? w _ hw225_2)).trans hw225_2), ((HB.out.cell (World.block_lt_of_cell? w _ hw226_0)).trans hw226_0), ((HB.out.cell (World.block_lt_of_cell? w _ hw226_1)).trans hw226_1), ((HB.out.cell (World.block_lt_of_cell? w _ hw226_2)).trans hw226_2), ((HB.out.cell (World.block_lt_of_cell? w _ hw227_0)).trans hw227_0), ((HB.out.cell (World.block_lt_of_cell? w _ hw227_1)).trans hw227_1), ((HB.out.cell (World.block_lt_of_cell? w _ hw227_2)).trans hw227_2), ((HB.out.cell (World.block_lt_of_cell? w _ hw229_0)).trans hw229_0), ((HB.out.cell (World.block_lt_of_cell? w _ hw229_1)).trans hw229_1), ((HB.out.cell (World.block_lt_of_cell? w _ hw229_2)).trans hw229_2)⟩ (fun hHeld => ?_); refine with_tabW sidingref15_Fits.tab4 sidingref15_Fits.bits4 (fun HT_ HW_ => ?_)
          generalize wr.drew = w12 at HB HR223_1 HR223_2 HR224_1 HR224_2 HR225_1 HR225_2 HR226_1 HR226_2 HR227_1 HR227_2 HR228 HR229_1 HR229_2 hx223_0 hx223_1 hx223_2 hx224_0 hx224_1 hx224_2 hx225_0 hx225_1 hx225_2 hx226_0 hx226_1 hx226_2 hx227_0 hx227_1 hx227_2 hx229_0 hx229_1 hx229_2 hHeld ⊢
          refine pu 0 12 Bz1 rfl rfl (any_of HT_.out (by kernel_rfl)) ?_
          refine pu 1 13 Bz2 rfl rfl (any_of HT_.out (by kernel_rfl)) ?_
          refine pu 2 14 Bz3 rfl rfl (any_of HT_.out (by kernel_rfl)) ?_
          refine pu 3 15 Bz4 rfl rfl (any_of HT_.out (by kernel_rfl)) ?_
          refine pu 5 17 Bz5 rfl rfl (any_of HT_.out (by kernel_rfl)) ?_
          refine pu 6 18 Bz6 rfl rfl (any_of HT_.out (by kernel_rfl)) ?_
          refine pu 7 19 Bz7 rfl rfl (any_of HT_.out (by kernel_rfl)) ?_
          refine pu 8 20 Bz8 rfl rfl (any_of HT_.out (by kernel_rfl)) ?_
          refine pu 12 24 Bz9 rfl rfl (any_of HT_.out (by kernel_rfl)) ?_
          refine pu 13 25 Bz10 rfl rfl (any_of HT_.out (by kernel_rfl)) ?_
          refine take_ (i := 4) (N := some 16) (v := ?_) (a' := ?_) Bz11 rfl rfl (take_ofW HT_.out HW_.out (by kernel_rfl)) (fun _ _ _ h => h) (Or.inl ⟨by rfl, ?_⟩) hHeld ?_ ?_; rotate_left; (focus rintro w' ⟨s0, s1, s2, s3, s4, s5, s6, s7, s8, s9, s10, s11, s12, s13, s14, s15, s16, s17⟩; go_simp; with_reducible rfl); rotate_left; (focus go_simp; rfl)
          refine take_ (i := 9) (N := some 21) (v := ?_) (a' := ?_) Bz12 rfl rfl (take_ofW HT_.out HW_.out (by kernel_rfl)) (fun _ _ _ h => h) (Or.inl ⟨by rfl, ?_⟩) hHeld ?_ ?_; rotate_left; (focus rintro w' ⟨s0, s1, s2, s3, s4, s5, s6, s7, s8, s9, s10, s11, s12, s13, s14, s15, s16, s17⟩; go_simp; with_reducible rfl); rotate_left; (focus go_simp; rfl)
          refine pu 10 22 Bz13 rfl rfl (any_of HT_.out (by kernel_rfl)) ?_
          refine pu 11 23 Bz14 rfl rfl (any_of HT_.out (by kernel_rfl)) ?_
          refine pu 14 26 Bz15 rfl rfl (any_of HT_.out (by kernel_rfl)) ?_
          refine pu 15 27 Bz16 rfl rfl (any_of HT_.out (by kernel_rfl)) ?_
          refine pu 16 28 Bz17 rfl rfl (any_of HT_.out (by kernel_rfl)) ?_
          refine pu 17 29 Bz18 rfl rfl (any_of HT_.out (by kernel_rfl)) ?_
          refine pu 18 30 Bz19 rfl rfl (any_of HT_.out (by kernel_rfl)) ?_
          refine pu 19 31 Bz20 rfl rfl (any_of HT_.out (by kernel_rfl)) ?_
          refine pu 20 32 Bz21 rfl rfl (any_of HT_.out (by kernel_rfl)) ?_
          refine pu 22 34 Bz27 rfl rfl (any_of HT_.out (by kernel_rfl)) ?_
          refine pu 23 35 Bz28 rfl rfl (any_of HT_.out (by kernel_rfl)) ?_
          refine pu 24 36 Bz29 rfl rfl (any_of HT_.out (by kernel_rfl)) ?_
          refine pu 25 37 Bz30 rfl rfl (any_of HT_.out (by kernel_rfl)) ?_
          refine pu 27 39 Bz31 rfl rfl (any_of HT_.out (by kernel_rfl)) ?_
          refine pu 28 40 Bz32 rfl rfl (any_of HT_.out (by kernel_rfl)) ?_
          refine pu 29 41 Bz33 rfl rfl (any_of HT_.out (by kernel_rfl)) ?_
          refine pu 30 42 Bz34 rfl rfl (any_of HT_.out (by kernel_rfl)) ?_
          refine pu 35 47 Bz35 rfl rfl (any_of HT_.out (by kernel_rfl)) ?_
          refine pu 36 48 Bz36 rfl rfl (any_of HT_.out (by kernel_rfl)) ?_
          refine pu 37 49 Bz37 rfl rfl (any_of HT_.out (by kernel_rfl)) ?_
          refine pu 38 50 Bz38 rfl rfl (any_of HT_.out (by kernel_rfl)) ?_
          refine take_ (i := 21) (N := some 33) (v := ?_) (a' := ?_) Bz39 rfl rfl (take_ofW HT_.out HW_.out (by kernel_rfl)) (fun _ _ _ h => h) (Or.inl ⟨by rfl, ?_⟩) hHeld ?_ ?_; rotate_left; (focus rintro w' ⟨s0, s1, s2, s3, s4, s5, s6, s7, s8, s9, s10, s11, s12, s13, s14, s15, s16, s17⟩; go_simp; with_reducible rfl); rotate_left; (focus go_simp; rfl)
          refine take_ (i := 26) (N := some 38) (v := ?_) (a' := ?_) Bz40 rfl rfl (take_ofW HT_.out HW_.out (by kernel_rfl)) (fun _ _ _ h => h) (Or.inl ⟨by rfl, ?_⟩) hHeld ?_ ?_; rotate_left; (focus rintro w' ⟨s0, s1, s2, s3, s4, s5, s6, s7, s8, s9, s10, s11, s12, s13, s14, s15, s16, s17⟩; go_simp; with_reducible rfl); rotate_left; (focus go_simp; rfl)
          refine take_ (i := 31) (N := some 43) (v := ?_) (a' := ?_) Bz41 rfl rfl (take_ofW HT_.out HW_.out (by kernel_rfl)) (fun _ _ _ h => h) (Or.inl ⟨by rfl, ?_⟩) hHeld ?_ ?_; rotate_left; (focus rintro w' ⟨s0, s1, s2, s3, s4, s5, s6, s7, s8, s9, s10, s11, s12, s13, s14, s15, s16, s17⟩; go_simp; with_reducible rfl); rotate_left; (focus go_simp; rfl)
          refine pu 32 44 Bz42 rfl rfl (any_of HT_.out (by kernel_rfl)) ?_
          refine pu 33 45 Bz43 rfl rfl (any_of HT_.out (by kernel_rfl)) ?_
          refine pu 34 46 Bz22 rfl rfl (any_of HT_.out (by kernel_rfl)) ?_
          refine take_ (i := 39) (N := some 51) (v := ?_) (a' := ?_) Bz23 rfl rfl (take_ofW HT_.out HW_.out (by kernel_rfl)) (fun _ _ _ h => h) (Or.inl ⟨by rfl, ?_⟩) hHeld ?_ ?_; rotate_left; (focus rintro w' ⟨s0, s1, s2, s3, s4, s5, s6, s7, s8, s9, s10, s11, s12, s13, s14, s15, s16, s17⟩; go_simp; with_reducible rfl); rotate_left; (focus go_simp; rfl)
          refine one_ (i := 40) (N := some 52) Bz24 rfl rfl (one_of HT_.out (by kernel_rfl)) (by decide) (fun K hK => ?_)
          refine goes_ Try.func14 (by kernel_rfl) rfl #[.slice A13 ((l0.take ((wrap64 (((rd_T40 l1 x5_1).f0) + (((rd_T40 l1 x5_1).f1).length : Int))) : Int).toNat).drop (((rd_T40 l1 x5_1).f0) : Int).toNat).length (c0 - ((rd_T40 l1 x5_1).f0).toNat), .slice A223_1 ((rd_T40 l1 x5_1).f1).length c223_1] (by rfl) rfl rfl (by (try simp only [List.map_toArray, List.map_cons, List.map_nil]); first | done | (rw [show ((l0.take ((wrap64 (((rd_T40 l1 x5_1).f0) + (((rd_T40 l1 x5_1).f1).length : Int))) : Int).toNat).drop (((rd_T40 l1 x5_1).f0) : Int).toNat).length = ((wrap64 (((rd_T40 l1 x5_1).f0) + (((rd_T40 l1 x5_1).f1).length : Int))).toNat - ((rd_T40 l1 x5_1).f0).toNat) from (by rw [List.length_drop, List.length_take]; have h_ : ((wrap64 (((rd_T40 l1 x5_1).f0) + (((rd_T40 l1 x5_1).f1).length : Int))) : Int) ≤ (l0.length : Int) := of_decide_eq_true (by first | (with_reducible assumption) | assumption); omega)] <;> rfl) | rfl | (simp only [List.length_drop, List.length_take]; rfl)) ?_
          with_reducible refine (sidingref13_Same.calls k1 _ _ ((l0.take ((wrap64 (((rd_T40 l1 x5_1).f0) + (((rd_T40 l1 x5_1).f1).length : Int))) : Int).toNat).drop (((rd_T40 l1 x5_1).f0) : Int).toNat) _ _ ((rd_T40 l1 x5_1).f1) true _ ?side1 ?side2 ?side3 ?side4 A10.out).mono ?_
          (case side1 => repeat (first | exact (Kd.C_below HR228.out HB.out) | (with_reducible refine Kd.C_alloc ?_ _) | (with_reducible refine Kd.C_drewN ?_ _) | (with_reducible refine Kd.C_drew ?_)))
          (case side2 => exact HC228.out)
          (case side3 => repeat (first | exact (Kd.C_below HR229_1.out HB.out) | (with_reducible refine Kd.C_alloc ?_ _) | (with_reducible refine Kd.C_drewN ?_ _) | (with_reducible refine Kd.C_drew ?_)))
          (case side4 => exact HC229_1.out)
          rintro e w' ⟨rfl, ⟨nd, rfl⟩⟩
          refine ⟨_, rfl, ?_⟩
          refine hK.out _ _ ⟨((HB.out.cell (World.block_lt_of_cell? w _ hw223_0)).trans hw223_0), ((HB.out.cell (World.block_lt_of_cell? w _ hw223_1)).trans hw223_1), ((HB.out.cell (World.block_lt_of_cell? w _ hw223_2)).trans hw223_2), ((HB.out.cell (World.block_lt_of_cell? w _ hw224_0)).trans hw224_0), ((HB.out.cell (World.block_lt_of_cell? w _ hw224_1)).trans hw224_1), ((HB.out.cell (World.block_lt_of_cell? w _ hw224_2)).trans hw224_2), ((HB.out.cell (World.block_lt_of_cell? w _ hw225_0)).trans hw225_0), ((HB.out.cell (World.block_lt_of_cell? w _ hw225_1)).trans hw225_1), ((HB.out.cell (World.block_lt_of_cell? w _ hw225_2)).trans hw225_2), ((HB.out.cell (World.block_lt_of_cell? w _ hw226_0)).trans hw226_0), ((HB.out.cell (World.block_lt_of_cell? w _ hw226_1)).trans hw226_1), ((HB.out.cell (World.block_lt_of_cell? w _ hw226_2)).trans hw226_2), ((HB.out.cell (World.block_lt_of_cell? w _ hw227_0)).trans hw227_0), ((HB.out.cell (World.block_lt_of_cell? w _ hw227_1)).trans hw227_1), ((HB.out.cell (World.block_lt_of_cell? w _ hw227_2)).trans hw227_2), ((HB.out.cell (World.block_lt_of_cell? w _ hw229_0)).trans hw229_0), ((HB.out.cell (World.block_lt_of_cell? w _ hw229_1)).trans hw229_1), ((HB.out.cell (World.block_lt_of_cell? w _ hw229_2)).trans hw229_2)⟩ (fun hHeld => ?_)
          clear hK K
          refine norm_ (a' := ?_) ?_ ?_
          rotate_left
          ·show Act.put _ (some 52) _ = _
           simp only [Act.put, List.setIfInBounds_toArray, List.set_cons_zero, List.set_cons_succ, i64_w, i32_w]
           rfl
          refine pu 41 53 Bz25 rfl rfl (any_of HT_.out (by kernel_rfl)) ?_
          refine pu 42 54 Bz26 rfl rfl (any_of HT_.out (by kernel_rfl)) ?_
          refine done_ (done_of HT_.out (by kernel_rfl)) ?_
          try go_wp2
          go_roundg k1
          case measure => have := HK1.out; omega
          case rel => exact ⟨(wrap64 (x5_1 + 1)), (by first | rfl | (simp; done) | (simp [*]; done)), H', ⟨by have := HK1.out; omega⟩, ⟨by repeat (first | (with_reducible first | exact HB.out | apply below_alloc | apply pw_below_drewN | apply below_drew1) | exact HB.out)⟩⟩
         ·replace c11 := Bool.eq_false_iff.mpr c11
          subst c11
          have H1 : (some false) = some r := by rw [if_neg (show ¬ (false = true) by decide)] at H; exact H
          clear H
          have H := H1
          clear H1
          obtain rfl := Option.some.inj H
          try go_wp2
          have n0_ := Aside0.mk (below_drew1 HB.out)
          clear HB
          have HB := n0_
          clear n0_
          have p223 : 0 ≤ (x5_1 : Int) := of_decide_eq_true (by first | (with_reducible assumption) | assumption)
          have q223 : x5_1 < (l1.length : Int) := of_decide_eq_true (by first | (with_reducible assumption) | assumption)
          obtain ⟨ad223, A223_1, c223_1, A223_2, c223_2, e223, hx223_0, hx223_1, hx223_2, hl223_1, hi223_1, hl223_2, hi223_2⟩ := at_T40 HR1.out x5_1 p223 q223
          have hw223_2 := hx223_2
          have hw223_1 := hx223_1
          have hw223_0 := hx223_0
          cases e223
          replace hx223_0 := (HB.out.cell (World.block_lt_of_cell? w _ hx223_0)).trans hx223_0
          replace hx223_1 := (HB.out.cell (World.block_lt_of_cell? w _ hx223_1)).trans hx223_1
          replace hx223_2 := (HB.out.cell (World.block_lt_of_cell? w _ hx223_2)).trans hx223_2
          have HR223_1 := Aside0.mk hi223_1
          have HC223_1 := Aside0.mk hl223_1
          clear hi223_1 hl223_1
          have HR223_2 := Aside0.mk hi223_2
          have HC223_2 := Aside0.mk hl223_2
          clear hi223_2 hl223_2
          replace p223 := eq_true p223
          replace q223 := eq_true q223
          have p224 : 0 ≤ (x5_1 : Int) := of_decide_eq_true (by first | (with_reducible assumption) | assumption)
          have q224 : x5_1 < (l1.length : Int) := of_decide_eq_true (by first | (with_reducible assumption) | assumption)
          obtain ⟨ad224, A224_1, c224_1, A224_2, c224_2, e224, hx224_0, hx224_1, hx224_2, hl224_1, hi224_1, hl224_2, hi224_2⟩ := at_T40 HR1.out x5_1 p224 q224
          have hw224_2 := hx224_2
          have hw224_1 := hx224_1
          have hw224_0 := hx224_0
          obtain rfl : ad223 = ad224 := (by injection e224)
          replace hx224_0 := (HB.out.cell (World.block_lt_of_cell? w _ hx224_0)).trans hx224_0
          replace hx224_1 := (HB.out.cell (World.block_lt_of_cell? w _ hx224_1)).trans hx224_1
          replace hx224_2 := (HB.out.cell (World.block_lt_of_cell? w _ hx224_2)).trans hx224_2
          have HR224_1 := Aside0.mk hi224_1
          have HC224_1 := Aside0.mk hl224_1
          clear hi224_1 hl224_1
          have HR224_2 := Aside0.mk hi224_2
          have HC224_2 := Aside0.mk hl224_2
          clear hi224_2 hl224_2
          replace p224 := eq_true p224
          replace q224 := eq_true q224
          have ea_ := Option.some.inj (hx223_1.symm.trans hx224_1)
          injection ea_ with ea_ en_ ec_
          subst ea_
          subst ec_
          clear en_
          have ea_ := Option.some.inj (hx223_2.symm.trans hx224_2)
          injection ea_ with ea_ en_ ec_
          subst ea_
          subst ec_
          clear en_
          have p225 : 0 ≤ (x5_1 : Int) := of_decide_eq_true (by first | (with_reducible assumption) | assumption)
          have q225 : x5_1 < (l1.length : Int) := of_decide_eq_true (by first | (with_reducible assumption) | assumption)
          obtain ⟨ad225, A225_1, c225_1, A225_2, c225_2, e225, hx225_0, hx225_1, hx225_2, hl225_1, hi225_1, hl225_2, hi225_2⟩ := at_T40 HR1.out x5_1 p225 q225
          have hw225_2 := hx225_2
          have hw225_1 := hx225_1
          have hw225_0 := hx225_0
          obtain rfl : ad223 = ad225 := (by injection e225)
          replace hx225_0 := (HB.out.cell (World.block_lt_of_cell? w _ hx225_0)).trans hx225_0
          replace hx225_1 := (HB.out.cell (World.block_lt_of_cell? w _ hx225_1)).trans hx225_1
          replace hx225_2 := (HB.out.cell (World.block_lt_of_cell? w _ hx225_2)).trans hx225_2
          have HR225_1 := Aside0.mk hi225_1
          have HC225_1 := Aside0.mk hl225_1
          clear hi225_1 hl225_1
          have HR225_2 := Aside0.mk hi225_2
          have HC225_2 := Aside0.mk hl225_2
          clear hi225_2 hl225_2
          replace p225 := eq_true p225
          replace q225 := eq_true q225
          have ea_ := Option.some.inj (hx223_1.symm.trans hx225_1)
          injection ea_ with ea_ en_ ec_
          subst ea_
          subst ec_
          clear en_
          have ea_ := Option.some.inj (hx223_2.symm.trans hx225_2)
          injection ea_ with ea_ en_ ec_
          subst ea_
          subst ec_
          clear en_
          have p226 : 0 ≤ (x5_1 : Int) := of_decide_eq_true (by first | (with_reducible assumption) | assumption)
          have q226 : x5_1 < (l1.length : Int) := of_decide_eq_true (by first | (with_reducible assumption) | assumption)
          obtain ⟨ad226, A226_1, c226_1, A226_2, c226_2, e226, hx226_0, hx226_1, hx226_2, hl226_1, hi226_1, hl226_2, hi226_2⟩ := at_T40 HR1.out x5_1 p226 q226
          have hw226_2 := hx226_2
          have hw226_1 := hx226_1
          have hw226_0 := hx226_0
          obtain rfl : ad223 = ad226 := (by injection e226)
          replace hx226_0 := (HB.out.cell (World.block_lt_of_cell? w _ hx226_0)).trans hx226_0
          replace hx226_1 := (HB.out.cell (World.block_lt_of_cell? w _ hx226_1)).trans hx226_1
          replace hx226_2 := (HB.out.cell (World.block_lt_of_cell? w _ hx226_2)).trans hx226_2
          have HR226_1 := Aside0.mk hi226_1
          have HC226_1 := Aside0.mk hl226_1
          clear hi226_1 hl226_1
          have HR226_2 := Aside0.mk hi226_2
          have HC226_2 := Aside0.mk hl226_2
          clear hi226_2 hl226_2
          replace p226 := eq_true p226
          replace q226 := eq_true q226
          have ea_ := Option.some.inj (hx223_1.symm.trans hx226_1)
          injection ea_ with ea_ en_ ec_
          subst ea_
          subst ec_
          clear en_
          have ea_ := Option.some.inj (hx223_2.symm.trans hx226_2)
          injection ea_ with ea_ en_ ec_
          subst ea_
          subst ec_
          clear en_
          have p227 : 0 ≤ (x5_1 : Int) := of_decide_eq_true (by first | (with_reducible assumption) | assumption)
          have q227 : x5_1 < (l1.length : Int) := of_decide_eq_true (by first | (with_reducible assumption) | assumption)
          obtain ⟨ad227, A227_1, c227_1, A227_2, c227_2, e227, hx227_0, hx227_1, hx227_2, hl227_1, hi227_1, hl227_2, hi227_2⟩ := at_T40 HR1.out x5_1 p227 q227
          have hw227_2 := hx227_2
          have hw227_1 := hx227_1
          have hw227_0 := hx227_0
          obtain rfl : ad223 = ad227 := (by injection e227)
          replace hx227_0 := (HB.out.cell (World.block_lt_of_cell? w _ hx227_0)).trans hx227_0
          replace hx227_1 := (HB.out.cell (World.block_lt_of_cell? w _ hx227_1)).trans hx227_1
          replace hx227_2 := (HB.out.cell (World.block_lt_of_cell? w _ hx227_2)).trans hx227_2
          have HR227_1 := Aside0.mk hi227_1
          have HC227_1 := Aside0.mk hl227_1
          clear hi227_1 hl227_1
          have HR227_2 := Aside0.mk hi227_2
          have HC227_2 := Aside0.mk hl227_2
          clear hi227_2 hl227_2
          replace p227 := eq_true p227
          replace q227 := eq_true q227
          have ea_ := Option.some.inj (hx223_1.symm.trans hx227_1)
          injection ea_ with ea_ en_ ec_
          subst ea_
          subst ec_
          clear en_
          have ea_ := Option.some.inj (hx223_2.symm.trans hx227_2)
          injection ea_ with ea_ en_ ec_
          subst ea_
          subst ec_
          clear en_
          obtain ⟨i015, hi015, _, hsz15, _⟩ := info_parts info9
          obtain ⟨A15, hcut15, hA15, hC15⟩ := print_mid_of (P := Try.prog) Value.string (⟨#[]⟩ : ByteArray) 22 9 .i64 .i64 Try.underlying22 hi015 hsz15 A0 c0 l0 ((rd_T40 l1 x5_1).f0) (wrap64 (((rd_T40 l1 x5_1).f0) + (((rd_T40 l1 x5_1).f1).length : Int))) (of_decide_eq_true (by first | (with_reducible assumption) | assumption)) (by first | omega | exact of_decide_eq_true (by first | (with_reducible assumption) | assumption)) (of_decide_eq_true (by first | (with_reducible assumption) | assumption)) HC0.out
          have HR228 := Aside0.mk (Kd.C_of_reads (h1 := fun _ => rfl) (hA15 _ (Kd.reads_of_C HR0.out)))
          have HC228 := Aside0.mk hC15
          clear hA15 hC15 hi015 hsz15
          have p229 : 0 ≤ (x5_1 : Int) := of_decide_eq_true (by first | (with_reducible assumption) | assumption)
          have q229 : x5_1 < (l1.length : Int) := of_decide_eq_true (by first | (with_reducible assumption) | assumption)
          obtain ⟨ad229, A229_1, c229_1, A229_2, c229_2, e229, hx229_0, hx229_1, hx229_2, hl229_1, hi229_1, hl229_2, hi229_2⟩ := at_T40 HR1.out x5_1 p229 q229
          have hw229_2 := hx229_2
          have hw229_1 := hx229_1
          have hw229_0 := hx229_0
          obtain rfl : ad223 = ad229 := (by injection e229)
          replace hx229_0 := (HB.out.cell (World.block_lt_of_cell? w _ hx229_0)).trans hx229_0
          replace hx229_1 := (HB.out.cell (World.block_lt_of_cell? w _ hx229_1)).trans hx229_1
          replace hx229_2 := (HB.out.cell (World.block_lt_of_cell? w _ hx229_2)).trans hx229_2
          have HR229_1 := Aside0.mk hi229_1
          have HC229_1 := Aside0.mk hl229_1
          clear hi229_1 hl229_1
          have HR229_2 := Aside0.mk hi229_2
          have HC229_2 := Aside0.mk hl229_2
          clear hi229_2 hl229_2
          replace p229 := eq_true p229
          replace q229 := eq_true q229
          have ea_ := Option.some.inj (hx223_1.symm.trans hx229_1)
          injection ea_ with ea_ en_ ec_
          subst ea_
          subst ec_
          clear en_
          have ea_ := Option.some.inj (hx223_2.symm.trans hx229_2)
          injection ea_ with ea_ en_ ec_
          subst ea_
          subst ec_
          clear en_
          refine start_ (n := 43) (S := fun w' => w'.cell? (ad223.add ((x5_1).toNat * 3)) = some (.int .i64 ((rd_T40 l1 x5_1).f0)) ∧ w'.cell? ⟨(ad223.add ((x5_1).toNat * 3)).block, (ad223.add ((x5_1).toNat * 3)).off + 1, none⟩ = some (.slice A223_1 ((rd_T40 l1 x5_1).f1).length c223_1) ∧ w'.cell? ⟨(ad223.add ((x5_1).toNat * 3)).block, (ad223.add ((x5_1).toNat * 3)).off + 2, none⟩ = some (.slice A223_2 ((rd_T40 l1 x5_1).f2).length c223_2) ∧ w'.cell? (ad223.add ((x5_1).toNat * 3)) = some (.int .i64 ((rd_T40 l1 x5_1).f0)) ∧ w'.cell? ⟨(ad223.add ((x5_1).toNat * 3)).block, (ad223.add ((x5_1).toNat * 3)).off + 1, none⟩ = some (.slice A223_1 ((rd_T40 l1 x5_1).f1).length c223_1) ∧ w'.cell? ⟨(ad223.add ((x5_1).toNat * 3)).block, (ad223.add ((x5_1).toNat * 3)).off + 2, none⟩ = some (.slice A223_2 ((rd_T40 l1 x5_1).f2).length c223_2) ∧ w'.cell? (ad223.add ((x5_1).toNat * 3)) = some (.int .i64 ((rd_T40 l1 x5_1).f0)) ∧ w'.cell? ⟨(ad223.add ((x5_1).toNat * 3)).block, (ad223.add ((x5_1).toNat * 3)).off + 1, none⟩ = some (.slice A223_1 ((rd_T40 l1 x5_1).f1).length c223_1) ∧ w'.cell? ⟨(ad223.add ((x5_1).toNat * 3)).block, (ad223.add ((x5_1).toNat * 3)).off + 2, none⟩ = some (.slice A223_2 ((rd_T40 l1 x5_1).f2).length c223_2) ∧ w'.cell? (ad223.add ((x5_1).toNat * 3)) = some (.int .i64 ((rd_T40 l1 x5_1).f0)) ∧ w'.cell? ⟨(ad223.add ((x5_1).toNat * 3)).block, (ad223.add ((x5_1).toNat * 3)).off + 1, none⟩ = some (.slice A223_1 ((rd_T40 l1 x5_1).f1).length c223_1) ∧ w'.cell? ⟨(ad223.add ((x5_1).toNat * 3)).block, (ad223.add ((x5_1).toNat * 3)).off + 2, none⟩ = some (.slice A223_2 ((rd_T40 l1 x5_1).f2).length c223_2) ∧ w'.cell? (ad223.add ((x5_1).toNat * 3)) = some (.int .i64 ((rd_T40 l1 x5_1).f0)) ∧ w'.cell? ⟨(ad223.add ((x5_1).toNat * 3)).block, (ad223.add ((x5_1).toNat * 3)).off + 1, none⟩ = some (.slice A223_1 ((rd_T40 l1 x5_1).f1).length c223_1) ∧ w'.cell? ⟨(ad223.add ((x5_1).toNat * 3)).block, (ad223.add ((x5_1).toNat * 3)).off + 2, none⟩ = some (.slice A223_2 ((rd_T40 l1 x5_1).f2).length c223_2) ∧ w'.cell? (ad223.add ((x5_1).toNat * 3)) = some (.int .i64 ((rd_T40 l1 x5_1).f0)) ∧ w'.cell? ⟨(ad223.add ((x5_1).toNat * 3)).block, (ad223.add ((x5_1).toNat * 3)).off + 1, none⟩ = some (.slice A223_1 ((rd_T40 l1 x5_1).f1).length c223_1) ∧ w'.cell? ⟨(ad223.add ((x5_1).toNat * 3)).block, (ad223.add ((x5_1).toNat * 3)).off + 2, none⟩ = some (.slice A223_2 ((rd_T40 l1 x5_1).f2).length c223_2)) (ds := []) Bz0 (by kernel_rfl) rfl rfl ⟨((HB.out.cell (World.block_lt_of_cell? w _ hw223_0)).trans hw223_0), ((HB.out.cell (World.block_lt_of_cell? w _ hw223_1)).trans hw223_1), ((HB.out.cell (World.block_lt_of_cell? w _ hw223_2)).trans hw223_2), ((HB.out.cell (World.block_lt_of_cell? w _ hw224_0)).trans hw224_0), ((HB.out.cell (World.block_lt_of_cell? w _ hw224_1)).trans hw224_1), ((HB.out.cell (World.block_lt_of_cell? w _ hw224_2)).trans hw224_2), ((HB.out.cell (World.block_lt_of_cell? w _ hw225_0)).trans hw225_0), ((HB.out.cell (World.block_lt_of_cell? w _ hw225_1)).trans hw225_1), ((HB.out.cell (World.block_lt_of_cell? w _ hw225_2)).trans hw225_2), ((HB.out.cell (World.block_lt_of_cell? w _ hw226_0)).trans hw226_0), ((HB.out.cell (World.block_lt_of_cell? w _ hw226_1)).trans hw226_1), ((HB.out.cell (World.block_lt_of_cell? w _ hw226_2)).trans hw226_2), ((HB.out.cell (World.block_lt_of_cell? w _ hw227_0)).trans hw227_0), ((HB.out.cell (World.block_lt_of_cell? w _ hw227_1)).trans hw227_1), ((HB.out.cell (World.block_lt_of_cell? w _ hw227_2)).trans hw227_2), ((HB.out.cell (World.block_lt_of_cell? w _ hw229_0)).trans hw229_0), ((HB.out.cell (World.block_lt_of_cell? w _ hw229_1)).trans hw229_1), ((HB.out.cell (World.block_lt_of_cell? w _ hw229_2)).trans hw229_2)⟩ (fun hHeld => ?_); refine with_tabW sidingref15_Fits.tab4 sidingref15_Fits.bits4 (fun HT_ HW_ => ?_)
          generalize wr.drew = w14 at HB HR223_1 HR223_2 HR224_1 HR224_2 HR225_1 HR225_2 HR226_1 HR226_2 HR227_1 HR227_2 HR228 HR229_1 HR229_2 hx223_0 hx223_1 hx223_2 hx224_0 hx224_1 hx224_2 hx225_0 hx225_1 hx225_2 hx226_0 hx226_1 hx226_2 hx227_0 hx227_1 hx227_2 hx229_0 hx229_1 hx229_2 hHeld ⊢
          refine pu 0 12 Bz1 rfl rfl (any_of HT_.out (by kernel_rfl)) ?_
          refine pu 1 13 Bz2 rfl rfl (any_of HT_.out (by kernel_rfl)) ?_
          refine pu 2 14 Bz3 rfl rfl (any_of HT_.out (by kernel_rfl)) ?_
          refine pu 3 15 Bz4 rfl rfl (any_of HT_.out (by kernel_rfl)) ?_
          refine pu 5 17 Bz5 rfl rfl (any_of HT_.out (by kernel_rfl)) ?_
          refine pu 6 18 Bz6 rfl rfl (any_of HT_.out (by kernel_rfl)) ?_
          refine pu 7 19 Bz7 rfl rfl (any_of HT_.out (by kernel_rfl)) ?_
          refine pu 8 20 Bz8 rfl rfl (any_of HT_.out (by kernel_rfl)) ?_
          refine pu 12 24 Bz9 rfl rfl (any_of HT_.out (by kernel_rfl)) ?_
          refine pu 13 25 Bz10 rfl rfl (any_of HT_.out (by kernel_rfl)) ?_
          refine take_ (i := 4) (N := some 16) (v := ?_) (a' := ?_) Bz11 rfl rfl (take_ofW HT_.out HW_.out (by kernel_rfl)) (fun _ _ _ h => h) (Or.inl ⟨by rfl, ?_⟩) hHeld ?_ ?_; rotate_left; (focus rintro w' ⟨s0, s1, s2, s3, s4, s5, s6, s7, s8, s9, s10, s11, s12, s13, s14, s15, s16, s17⟩; go_simp; with_reducible rfl); rotate_left; (focus go_simp; rfl)
          refine take_ (i := 9) (N := some 21) (v := ?_) (a' := ?_) Bz12 rfl rfl (take_ofW HT_.out HW_.out (by kernel_rfl)) (fun _ _ _ h => h) (Or.inl ⟨by rfl, ?_⟩) hHeld ?_ ?_; rotate_left; (focus rintro w' ⟨s0, s1, s2, s3, s4, s5, s6, s7, s8, s9, s10, s11, s12, s13, s14, s15, s16, s17⟩; go_simp; with_reducible rfl); rotate_left; (focus go_simp; rfl)
          refine pu 10 22 Bz13 rfl rfl (any_of HT_.out (by kernel_rfl)) ?_
          refine pu 11 23 Bz14 rfl rfl (any_of HT_.out (by kernel_rfl)) ?_
          refine pu 14 26 Bz15 rfl rfl (any_of HT_.out (by kernel_rfl)) ?_
          refine pu 15 27 Bz16 rfl rfl (any_of HT_.out (by kernel_rfl)) ?_
          refine pu 16 28 Bz17 rfl rfl (any_of HT_.out (by kernel_rfl)) ?_
          refine pu 17 29 Bz18 rfl rfl (any_of HT_.out (by kernel_rfl)) ?_
          refine pu 18 30 Bz19 rfl rfl (any_of HT_.out (by kernel_rfl)) ?_
          refine pu 19 31 Bz20 rfl rfl (any_of HT_.out (by kernel_rfl)) ?_
          refine pu 20 32 Bz21 rfl rfl (any_of HT_.out (by kernel_rfl)) ?_
          refine pu 22 34 Bz27 rfl rfl (any_of HT_.out (by kernel_rfl)) ?_
          refine pu 23 35 Bz28 rfl rfl (any_of HT_.out (by kernel_rfl)) ?_
          refine pu 24 36 Bz29 rfl rfl (any_of HT_.out (by kernel_rfl)) ?_
          refine pu 25 37 Bz30 rfl rfl (any_of HT_.out (by kernel_rfl)) ?_
          refine pu 27 39 Bz31 rfl rfl (any_of HT_.out (by kernel_rfl)) ?_
          refine pu 28 40 Bz32 rfl rfl (any_of HT_.out (by kernel_rfl)) ?_
          refine pu 29 41 Bz33 rfl rfl (any_of HT_.out (by kernel_rfl)) ?_
          refine pu 30 42 Bz34 rfl rfl (any_of HT_.out (by kernel_rfl)) ?_
          refine pu 35 47 Bz35 rfl rfl (any_of HT_.out (by kernel_rfl)) ?_
          refine pu 36 48 Bz36 rfl rfl (any_of HT_.out (by kernel_rfl)) ?_
          refine pu 37 49 Bz37 rfl rfl (any_of HT_.out (by kernel_rfl)) ?_
          refine pu 38 50 Bz38 rfl rfl (any_of HT_.out (by kernel_rfl)) ?_
          refine take_ (i := 21) (N := some 33) (v := ?_) (a' := ?_) Bz39 rfl rfl (take_ofW HT_.out HW_.out (by kernel_rfl)) (fun _ _ _ h => h) (Or.inl ⟨by rfl, ?_⟩) hHeld ?_ ?_; rotate_left; (focus rintro w' ⟨s0, s1, s2, s3, s4, s5, s6, s7, s8, s9, s10, s11, s12, s13, s14, s15, s16, s17⟩; go_simp; with_reducible rfl); rotate_left; (focus go_simp; rfl)
          refine take_ (i := 26) (N := some 38) (v := ?_) (a' := ?_) Bz40 rfl rfl (take_ofW HT_.out HW_.out (by kernel_rfl)) (fun _ _ _ h => h) (Or.inl ⟨by rfl, ?_⟩) hHeld ?_ ?_; rotate_left; (focus rintro w' ⟨s0, s1, s2, s3, s4, s5, s6, s7, s8, s9, s10, s11, s12, s13, s14, s15, s16, s17⟩; go_simp; with_reducible rfl); rotate_left; (focus go_simp; rfl)
          refine take_ (i := 31) (N := some 43) (v := ?_) (a' := ?_) Bz41 rfl rfl (take_ofW HT_.out HW_.out (by kernel_rfl)) (fun _ _ _ h => h) (Or.inl ⟨by rfl, ?_⟩) hHeld ?_ ?_; rotate_left; (focus rintro w' ⟨s0, s1, s2, s3, s4, s5, s6, s7, s8, s9, s10, s11, s12, s13, s14, s15, s16, s17⟩; go_simp; with_reducible rfl); rotate_left; (focus go_simp; rfl)
          refine pu 32 44 Bz42 rfl rfl (any_of HT_.out (by kernel_rfl)) ?_
          refine pu 33 45 Bz43 rfl rfl (any_of HT_.out (by kernel_rfl)) ?_
          refine pu 34 46 Bz22 rfl rfl (any_of HT_.out (by kernel_rfl)) ?_
          refine take_ (i := 39) (N := some 51) (v := ?_) (a' := ?_) Bz23 rfl rfl (take_ofW HT_.out HW_.out (by kernel_rfl)) (fun _ _ _ h => h) (Or.inl ⟨by rfl, ?_⟩) hHeld ?_ ?_; rotate_left; (focus rintro w' ⟨s0, s1, s2, s3, s4, s5, s6, s7, s8, s9, s10, s11, s12, s13, s14, s15, s16, s17⟩; go_simp; with_reducible rfl); rotate_left; (focus go_simp; rfl)
          refine one_ (i := 40) (N := some 52) Bz24 rfl rfl (one_of HT_.out (by kernel_rfl)) (by decide) (fun K hK => ?_)
          refine goes_ Try.func14 (by kernel_rfl) rfl #[.slice A15 ((l0.take ((wrap64 (((rd_T40 l1 x5_1).f0) + (((rd_T40 l1 x5_1).f1).length : Int))) : Int).toNat).drop (((rd_T40 l1 x5_1).f0) : Int).toNat).length (c0 - ((rd_T40 l1 x5_1).f0).toNat), .slice A223_1 ((rd_T40 l1 x5_1).f1).length c223_1] (by rfl) rfl rfl (by (try simp only [List.map_toArray, List.map_cons, List.map_nil]); first | done | (rw [show ((l0.take ((wrap64 (((rd_T40 l1 x5_1).f0) + (((rd_T40 l1 x5_1).f1).length : Int))) : Int).toNat).drop (((rd_T40 l1 x5_1).f0) : Int).toNat).length = ((wrap64 (((rd_T40 l1 x5_1).f0) + (((rd_T40 l1 x5_1).f1).length : Int))).toNat - ((rd_T40 l1 x5_1).f0).toNat) from (by rw [List.length_drop, List.length_take]; have h_ : ((wrap64 (((rd_T40 l1 x5_1).f0) + (((rd_T40 l1 x5_1).f1).length : Int))) : Int) ≤ (l0.length : Int) := of_decide_eq_true (by first | (with_reducible assumption) | assumption); omega)] <;> rfl) | rfl | (simp only [List.length_drop, List.length_take]; rfl)) ?_
          with_reducible refine (sidingref13_Same.calls k1 _ _ ((l0.take ((wrap64 (((rd_T40 l1 x5_1).f0) + (((rd_T40 l1 x5_1).f1).length : Int))) : Int).toNat).drop (((rd_T40 l1 x5_1).f0) : Int).toNat) _ _ ((rd_T40 l1 x5_1).f1) false _ ?side1 ?side2 ?side3 ?side4 A10.out).mono ?_
          (case side1 => repeat (first | exact (Kd.C_below HR228.out HB.out) | (with_reducible refine Kd.C_alloc ?_ _) | (with_reducible refine Kd.C_drewN ?_ _) | (with_reducible refine Kd.C_drew ?_)))
          (case side2 => exact HC228.out)
          (case side3 => repeat (first | exact (Kd.C_below HR229_1.out HB.out) | (with_reducible refine Kd.C_alloc ?_ _) | (with_reducible refine Kd.C_drewN ?_ _) | (with_reducible refine Kd.C_drew ?_)))
          (case side4 => exact HC229_1.out)
          rintro e w' ⟨rfl, ⟨nd, rfl⟩⟩
          refine ⟨_, rfl, ?_⟩
          refine hK.out _ _ ⟨((HB.out.cell (World.block_lt_of_cell? w _ hw223_0)).trans hw223_0), ((HB.out.cell (World.block_lt_of_cell? w _ hw223_1)).trans hw223_1), ((HB.out.cell (World.block_lt_of_cell? w _ hw223_2)).trans hw223_2), ((HB.out.cell (World.block_lt_of_cell? w _ hw224_0)).trans hw224_0), ((HB.out.cell (World.block_lt_of_cell? w _ hw224_1)).trans hw224_1), ((HB.out.cell (World.block_lt_of_cell? w _ hw224_2)).trans hw224_2), ((HB.out.cell (World.block_lt_of_cell? w _ hw225_0)).trans hw225_0), ((HB.out.cell (World.block_lt_of_cell? w _ hw225_1)).trans hw225_1), ((HB.out.cell (World.block_lt_of_cell? w _ hw225_2)).trans hw225_2), ((HB.out.cell (World.block_lt_of_cell? w _ hw226_0)).trans hw226_0), ((HB.out.cell (World.block_lt_of_cell? w _ hw226_1)).trans hw226_1), ((HB.out.cell (World.block_lt_of_cell? w _ hw226_2)).trans hw226_2), ((HB.out.cell (World.block_lt_of_cell? w _ hw227_0)).trans hw227_0), ((HB.out.cell (World.block_lt_of_cell? w _ hw227_1)).trans hw227_1), ((HB.out.cell (World.block_lt_of_cell? w _ hw227_2)).trans hw227_2), ((HB.out.cell (World.block_lt_of_cell? w _ hw229_0)).trans hw229_0), ((HB.out.cell (World.block_lt_of_cell? w _ hw229_1)).trans hw229_1), ((HB.out.cell (World.block_lt_of_cell? w _ hw229_2)).trans hw229_2)⟩ (fun hHeld => ?_)
          clear hK K
          refine norm_ (a' := ?_) ?_ ?_
          rotate_left
          ·show Act.put _ (some 52) _ = _
           simp only [Act.put, List.setIfInBounds_toArray, List.set_cons_zero, List.set_cons_succ, i64_w, i32_w]
           rfl
          refine pu 41 53 Bz25 rfl rfl (any_of HT_.out (by kernel_rfl)) ?_
          refine pu 42 54 Bz26 rfl rfl (any_of HT_.out (by kernel_rfl)) ?_
          refine done_ (done_of HT_.out (by kernel_rfl)) ?_
          try go_wp2
          go_ret
          exact ⟨by first | rfl | (simp [errW_none, errW_some] <;> rfl) | (simp [*, errW_none, errW_some] <;> rfl), by repeat (first | (with_reducible first | exact HB.out | apply below_alloc | apply pw_below_drewN | apply below_drew1) | exact HB.out)⟩
        ·rw [if_neg c9] at H
         exact absurd H (by simp)
       ·rw [if_neg c8] at H
        exact absurd H (by simp)
      ·rw [if_neg c7] at H
       exact absurd H (by simp)
    ·rw [if_neg c4] at H
     exact absurd H (by simp)
   ·rw [if_neg c3] at H
    have c3b0 : decide (x5_1 < (l1.length : Int)) = false := decide_eq_false c3
    clear c3
    obtain rfl := Option.some.inj H
    go_wp2
    go_ret
    exact ⟨by first | rfl | (simp [errW_none, errW_some] <;> rfl) | (simp [*, errW_none, errW_some] <;> rfl), by repeat (first | (with_reducible first | exact HB.out | apply below_alloc | apply pw_below_drewN | apply below_drew1) | exact HB.out)⟩
end Go.Proofs.Ytmgbbmjfjnhmiaa.Pr
