/- Part 8 of the proof of HunkDiffs: texts put together. -/
import Derived.Test.YtmgbbmjfjnhmiaaJHunkDiffs4
import Derived.Test.YtmgbbmjfjnhmiaaJHunkDiffs5
import Derived.Test.YtmgbbmjfjnhmiaaJHunkDiffs6
import Derived.Test.YtmgbbmjfjnhmiaaJHunkDiffs7
namespace Go.Proofs.Ytmgbbmjfjnhmiaa.Pr
open Go.RowKit Go.Proofs.YtmgbbmjfjnhmiaaW.PrintWords Go.Proofs.YtmgbbmjfjnhmiaaW.PrintLast Go.Proofs.YtmgbbmjfjnhmiaaW.PrintMore
attribute [local go_sem] i64_w i32_w max2_int min2_int max_two min_two max_three min_three max_four min_four   
set_option linter.unusedVariables false
set_option linter.unusedSimpArgs false
mutual
def sidingref15_Widen.j0 : Nat → List ByteArray → List (S40) → Int → Bool → Option ((List (S40)) × Int)
  | 0, _, _, _, _ => none
  | k + 1, x0, x1, x2, x31 => if x31 = true then (some (([] : List (S40)), 2)) else ((sidingref15_Fits.f k x0 x1).bind fun t235 => (if t235 = true then (sidingref15_Widen.l0 k x0 x1 x2 ([] : List (S40)) 0) else (some (([] : List (S40)), 6))))
def sidingref15_Widen.l0 : Nat → List ByteArray → List (S40) → Int → List (S40) → Int → Option ((List (S40)) × Int)
  | 0, _, _, _, _, _ => none
  | k + 1, x0, x1, x2, x8, x9 => if x9 < (x1.length : Int) then (sidingref15_Widen.l1 k x0 x1 x2 x8 x9 x9) else (some (x8, 0))
def sidingref15_Widen.j3 : Nat → List ByteArray → List (S40) → Int → List (S40) → Int → Int → Option ((List (S40)) × Int)
  | 0, _, _, _, _, _, _ => none
  | k + 1, x0, x1, x2, x8, x9, x10 => if 0 ≤ x9 then (if x9 < (x1.length : Int) then (if 0 ≤ x10 then (if x10 < (x1.length : Int) then ((some (([] : List ByteArray) : List ByteArray)).bind fun y242 => (if 0 ≤ (mx 0 (wrap64 (((rd_T40 x1 x9).f0) - x2))) then (if (mx 0 (wrap64 (((rd_T40 x1 x9).f0) - x2))) ≤ (mn (x0.length : Int) (wrap64 ((wrap64 (((rd_T40 x1 x10).f0) + (((rd_T40 x1 x10).f1).length : Int))) + x2))) then (if (mn (x0.length : Int) (wrap64 ((wrap64 (((rd_T40 x1 x10).f0) + (((rd_T40 x1 x10).f1).length : Int))) + x2))) ≤ (x0.length : Int) then (if y242.length + ((x0.take ((mn (x0.length : Int) (wrap64 ((wrap64 (((rd_T40 x1 x10).f0) + (((rd_T40 x1 x10).f1).length : Int))) + x2))) : Int).toNat).drop ((mx 0 (wrap64 (((rd_T40 x1 x9).f0) - x2))) : Int).toNat).length < 8796093022208 then (sidingref15_Widen.l2 k x0 x1 x2 x8 x10 (mn (x0.length : Int) (wrap64 ((wrap64 (((rd_T40 x1 x10).f0) + (((rd_T40 x1 x10).f1).length : Int))) + x2))) (mx 0 (wrap64 (((rd_T40 x1 x9).f0) - x2))) x9 (mx 0 (wrap64 (((rd_T40 x1 x9).f0) - x2))) (y242 ++ ((x0.take ((mn (x0.length : Int) (wrap64 ((wrap64 (((rd_T40 x1 x10).f0) + (((rd_T40 x1 x10).f1).length : Int))) + x2))) : Int).toNat).drop ((mx 0 (wrap64 (((rd_T40 x1 x9).f0) - x2))) : Int).toNat)) ([] : List ByteArray)) else (none)) else (none)) else (none)) else (none))) else (none)) else (none)) else (none)) else (none)
def sidingref15_Widen.l2 : Nat → List ByteArray → List (S40) → Int → List (S40) → Int → Int → Int → Int → Int → List ByteArray → List ByteArray → Option ((List (S40)) × Int)
  | 0, _, _, _, _, _, _, _, _, _, _, _ => none
  | k + 1, x0, x1, x2, x8, x10, x12, x14, x15, x250000, x250001, x250002 => if x15 ≤ x10 then (if 0 ≤ x15 then (if x15 < (x1.length : Int) then (if 0 ≤ x14 then (if x14 ≤ ((rd_T40 x1 x15).f0) then (if ((rd_T40 x1 x15).f0) ≤ (x0.length : Int) then (if x250002.length + ((x0.take (((rd_T40 x1 x15).f0) : Int).toNat).drop (x14 : Int).toNat).length < 8796093022208 then ((some (x250002 ++ ((x0.take (((rd_T40 x1 x15).f0) : Int).toNat).drop (x14 : Int).toNat) : List ByteArray)).bind fun y252 => (if y252.length + ((rd_T40 x1 x15).f2).length < 8796093022208 then (sidingref15_Widen.l2 k x0 x1 x2 x8 x10 x12 (wrap64 (((rd_T40 x1 x15).f0) + (((rd_T40 x1 x15).f1).length : Int))) (wrap64 (x15 + 1)) x250000 x250001 (y252 ++ ((rd_T40 x1 x15).f2))) else (none))) else (none)) else (none)) else (none)) else (none)) else (none)) else (none)) else (if 0 ≤ x14 then (if x14 ≤ x12 then (if x12 ≤ (x0.length : Int) then (if x250002.length + ((x0.take (x12 : Int).toNat).drop (x14 : Int).toNat).length < 8796093022208 then (if x8.length < 2513169434916 then (sidingref15_Widen.l0 k x0 x1 x2 (x8 ++ [(⟨x250000, x250001, (x250002 ++ ((x0.take (x12 : Int).toNat).drop (x14 : Int).toNat))⟩ : S40)]) (wrap64 (x10 + 1))) else (none)) else (none)) else (none)) else (none)) else (none))
def sidingref15_Widen.l1 : Nat → List ByteArray → List (S40) → Int → List (S40) → Int → Int → Option ((List (S40)) × Int)
  | 0, _, _, _, _, _, _ => none
  | k + 1, x0, x1, x2, x8, x9, x10 => if (wrap64 (x10 + 1)) < (x1.length : Int) then (if x2 > 0 then (if 0 ≤ (wrap64 (x10 + 1)) then (if 0 ≤ x10 then (if x10 < (x1.length : Int) then (if (wrap64 (((rd_T40 x1 (wrap64 (x10 + 1))).f0) - x2)) ≤ (wrap64 ((wrap64 (((rd_T40 x1 x10).f0) + (((rd_T40 x1 x10).f1).length : Int))) + x2)) then (sidingref15_Widen.l1 k x0 x1 x2 x8 x9 (wrap64 (x10 + 1))) else (sidingref15_Widen.j3 k x0 x1 x2 x8 x9 x10)) else (none)) else (none)) else (none)) else (sidingref15_Widen.j3 k x0 x1 x2 x8 x9 x10)) else (sidingref15_Widen.j3 k x0 x1 x2 x8 x9 x10)
end
def sidingref15_Widen.f (k : Nat) (l0 : List ByteArray) (l1 : List (S40)) (a2 : Int) : Option ((List (S40)) × Int) := (sidingref13_Lines.f k l0).bind fun t231 => (if t231 = 0 then ((sidingref15_Check.f k l1).bind fun t233 => (if t233 = 0 then (if a2 < 0 then (sidingref15_Widen.j0 k l0 l1 a2 true) else (sidingref15_Widen.j0 k l0 l1 a2 (decide (a2 > 5)))) else ((sidingref15_Check.f k l1).bind fun t234 => (some (([] : List (S40)), t234))))) else ((sidingref13_Lines.f k l0).bind fun t232 => (some (([] : List (S40)), t232))))
def sidingref15_Widen.T13 : Bool × List (List Nat × List Nat) := (true, [([], []), ([0], [0]), ([], []), ([2], [2]), ([1, 3], [1, 3]), ([4], [4]), ([5], [5]), ([6, 5], [5, 6]), ([5, 7], [5, 7]), ([8, 5], [8]), ([9], [9]), ([9], [9]), ([11, 9], [9, 11]), ([10, 12, 9], [9, 10, 12]), ([13, 9], [9, 13]), ([14, 9], [9, 14]), ([9], [9]), ([15, 16, 9], [9, 15, 16]), ([9], [9]), ([9], [9]), ([18, 19, 9], [9, 18, 19]), ([20, 9], [9, 20]), ([21, 9], [9, 21]), ([9], [9]), ([9], [9]), ([23, 24, 9], [9, 23, 24]), ([25, 9], [9, 25]), ([26, 9], [9, 26]), ([27, 9], [9, 27]), ([22, 28, 9], [9, 22, 28]), ([9], [9]), ([29, 30, 9], [9, 29, 30]), ([17, 31, 9], [9, 17, 31]), ([9, 32], [9, 32])])
def sidingref15_Widen.B13 : List Nat := [0, 1, 0, 4, 15, 31, 63, 127, 255, 511, 1023, 1023, 3071, 8191, 16383, 32767, 1023, 131071, 1023, 1023, 787455, 1836031, 3933183, 1023, 1023, 25166847, 58721279, 125830143, 260047871, 536609791, 1023, 2147222527, 4294967295, 8589934591]
theorem sidingref15_Widen.tab13 : rtab .any (opsOf Try.f10 13) = sidingref15_Widen.T13 := by kernel_rfl
theorem sidingref15_Widen.bits13 : waitsOk sidingref15_Widen.T13.2 sidingref15_Widen.B13 = true := by kernel_rfl
def sidingref15_Widen.T15 : Bool × List (List Nat × List Nat) := (true, [([], []), ([], []), ([0, 1], [0, 1]), ([2], [2]), ([3], [3]), ([], []), ([4, 5], [4, 5]), ([6], [6]), ([], []), ([8], [8]), ([], []), ([], []), ([10, 11], [10, 11]), ([12], [12]), ([13], [13]), ([], []), ([], []), ([15, 16], [15, 16]), ([17], [17]), ([18], [18]), ([19], [19]), ([14, 20], [14, 20]), ([], []), ([21, 22], [21, 22]), ([9, 23], [9, 23]), ([7, 0, 1, 2, 3, 4, 5, 6, 7], [7]), ([24, 25, 0, 1, 2, 3, 4, 5, 6, 7, 8, 9, 10, 11, 12, 13, 14, 15, 16, 17, 18, 19, 20, 21, 22, 23, 24, 25], [24])])
def sidingref15_Widen.B15 : List Nat := [0, 0, 3, 7, 15, 0, 63, 127, 0, 256, 0, 0, 3072, 7168, 15360, 0, 0, 98304, 229376, 491520, 1015808, 2096128, 0, 8387584, 16776960, 255, 67108863]
theorem sidingref15_Widen.tab15 : rtab .any (opsOf Try.f10 15) = sidingref15_Widen.T15 := by kernel_rfl
theorem sidingref15_Widen.bits15 : waitsOk sidingref15_Widen.T15.2 sidingref15_Widen.B15 = true := by kernel_rfl
def sidingref15_Widen.T21 : Bool × List (List Nat × List Nat) := (true, [([], []), ([0], [0]), ([], []), ([], []), ([], []), ([], []), ([4, 5], [4, 5]), ([6], [6]), ([7], [7]), ([2, 3, 8], [2, 3, 8]), ([1, 9], [1, 9]), ([], []), ([], []), ([11, 12], [11, 12]), ([13], [13]), ([14], [14]), ([10, 15, 10], [10, 15]), ([0, 1, 2, 3, 4, 5, 6, 7, 8, 9, 10, 11, 12, 13, 14, 15, 16], []), ([17, 16, 16, 0, 1, 2, 3, 4, 5, 6, 7, 8, 9, 10, 11, 12, 13, 14, 15, 16], [16, 17])])
def sidingref15_Widen.B21 : List Nat := [0, 1, 0, 0, 0, 0, 48, 112, 240, 508, 1023, 0, 0, 6144, 14336, 30720, 65535, 131071, 262143]
theorem sidingref15_Widen.tab21 : rtab .any (opsOf Try.f10 21) = sidingref15_Widen.T21 := by kernel_rfl
theorem sidingref15_Widen.bits21 : waitsOk sidingref15_Widen.T21.2 sidingref15_Widen.B21 = true := by kernel_rfl
def sidingref15_Widen.T22 : Bool × List (List Nat × List Nat) := (true, [([], []), ([], []), ([0, 1], [0, 1]), ([2], [2]), ([3], [3]), ([], []), ([], []), ([5, 6], [5, 6]), ([7], [7]), ([8], [8]), ([9], [9]), ([4, 10], [4, 10]), ([11, 0, 1, 2, 3, 4, 5, 6, 7, 8, 9, 10, 11], [11])])
def sidingref15_Widen.B22 : List Nat := [0, 0, 3, 7, 15, 0, 0, 96, 224, 480, 992, 2047, 4095]
theorem sidingref15_Widen.tab22 : rtab .any (opsOf Try.f10 22) = sidingref15_Widen.T22 := by kernel_rfl
theorem sidingref15_Widen.bits22 : waitsOk sidingref15_Widen.T22.2 sidingref15_Widen.B22 = true := by kernel_rfl
def sidingref15_Widen.T23 : Bool × List (List Nat × List Nat) := (true, [([], []), ([0], [0]), ([], []), ([], []), ([], []), ([2, 3, 4], [2, 3, 4]), ([1, 5], [1, 5]), ([0, 1, 2, 3, 4, 5, 6], []), ([7, 6, 6, 0, 1, 2, 3, 4, 5, 6], [6, 7])])
def sidingref15_Widen.B23 : List Nat := [0, 1, 0, 0, 0, 28, 63, 127, 255]
theorem sidingref15_Widen.tab23 : rtab .any (opsOf Try.f10 23) = sidingref15_Widen.T23 := by kernel_rfl
theorem sidingref15_Widen.bits23 : waitsOk sidingref15_Widen.T23.2 sidingref15_Widen.B23 = true := by kernel_rfl
abbrev sidingref15_Widen.Bz0 : Array Bool := #[false, false, false, false, false, false, false, false, false, false, false, false, false, false, false, false, false, false, false, false, false, false, false, false, false, false, false, false, false, false, false, false, false, false]
abbrev sidingref15_Widen.Bz1 : Array Bool := #[true, false, false, false, false, false, false, false, false, false, false, false, false, false, false, false, false, false, false, false, false, false, false, false, false, false, false, false, false, false, false, false, false, false]
abbrev sidingref15_Widen.Bz2 : Array Bool := #[true, true, false, false, false, false, false, false, false, false, false, false, false, false, false, false, false, false, false, false, false, false, false, false, false, false, false, false, false, false, false, false, false, false]
abbrev sidingref15_Widen.Bz3 : Array Bool := #[true, true, true, false, false, false, false, false, false, false, false, false, false, false, false, false, false, false, false, false, false, false, false, false, false, false, false, false, false, false, false, false, false, false]
abbrev sidingref15_Widen.Bz4 : Array Bool := #[true, true, true, true, false, false, false, false, false, false, false, false, false, false, false, false, false, false, false, false, false, false, false, false, false, false, false, false, false, false, false, false, false, false]
abbrev sidingref15_Widen.Bz5 : Array Bool := #[true, true, true, true, true, false, false, false, false, false, false, false, false, false, false, false, false, false, false, false, false, false, false, false, false, false, false, false, false, false, false, false, false, false]
abbrev sidingref15_Widen.Bz6 : Array Bool := #[true, true, true, true, true, true, false, false, false, false, false, false, false, false, false, false, false, false, false, false, false, false, false, false, false, false, false, false, false, false, false, false, false, false]
abbrev sidingref15_Widen.Bz7 : Array Bool := #[true, true, true, true, true, true, true, false, false, false, false, false, false, false, false, false, false, false, false, false, false, false, false, false, false, false, false, false, false, false, false, false, false, false]
abbrev sidingref15_Widen.Bz8 : Array Bool := #[true, true, true, true, true, true, true, true, false, false, false, false, false, false, false, false, false, false, false, false, false, false, false, false, false, false, false, false, false, false, false, false, false, false]
abbrev sidingref15_Widen.Bz9 : Array Bool := #[true, true, true, true, true, true, true, true, true, false, false, false, false, false, false, false, false, false, false, false, false, false, false, false, false, false, false, false, false, false, false, false, false, false]
abbrev sidingref15_Widen.Bz10 : Array Bool := #[true, true, true, true, true, true, true, true, true, true, false, false, false, false, false, false, false, false, false, false, false, false, false, false, false, false, false, false, false, false, false, false, false, false]
abbrev sidingref15_Widen.Bz11 : Array Bool := #[true, true, true, true, true, true, true, true, true, true, true, false, false, false, false, false, false, false, false, false, false, false, false, false, false, false, false, false, false, false, false, false, false, false]
abbrev sidingref15_Widen.Bz12 : Array Bool := #[true, true, true, true, true, true, true, true, true, true, true, true, false, false, false, false, false, false, false, false, false, false, false, false, false, false, false, false, false, false, false, false, false, false]
abbrev sidingref15_Widen.Bz13 : Array Bool := #[true, true, true, true, true, true, true, true, true, true, true, true, true, false, false, false, false, false, false, false, false, false, false, false, false, false, false, false, false, false, false, false, false, false]
abbrev sidingref15_Widen.Bz14 : Array Bool := #[true, true, true, true, true, true, true, true, true, true, true, true, true, true, false, false, false, false, false, false, false, false, false, false, false, false, false, false, false, false, false, false, false, false]
abbrev sidingref15_Widen.Bz15 : Array Bool := #[true, true, true, true, true, true, true, true, true, true, true, true, true, true, true, false, false, false, false, false, false, false, false, false, false, false, false, false, false, false, false, false, false, false]
abbrev sidingref15_Widen.Bz16 : Array Bool := #[true, true, true, true, true, true, true, true, true, true, true, true, true, true, true, false, true, false, false, false, false, false, false, false, false, false, false, false, false, false, false, false, false, false]
abbrev sidingref15_Widen.Bz17 : Array Bool := #[true, true, true, true, true, true, true, true, true, true, true, true, true, true, true, false, true, false, true, false, false, false, false, false, false, false, false, false, false, false, false, false, false, false]
abbrev sidingref15_Widen.Bz18 : Array Bool := #[true, true, true, true, true, true, true, true, true, true, true, true, true, true, true, false, true, false, true, true, false, false, false, false, false, false, false, false, false, false, false, false, false, false]
abbrev sidingref15_Widen.Bz19 : Array Bool := #[true, true, true, true, true, true, true, true, true, true, true, true, true, true, true, false, true, false, true, true, true, false, false, false, false, false, false, false, false, false, false, false, false, false]
abbrev sidingref15_Widen.Bz20 : Array Bool := #[true, true, true, true, true, true, true, true, true, true, true, true, true, true, true, false, true, false, true, true, true, true, false, false, false, false, false, false, false, false, false, false, false, false]
abbrev sidingref15_Widen.Bz21 : Array Bool := #[true, true, true, true, true, true, true, true, true, true, true, true, true, true, true, false, true, false, true, true, true, true, false, true, false, false, false, false, false, false, false, false, false, false]
abbrev sidingref15_Widen.Bz22 : Array Bool := #[true, true, true, true, true, true, true, true, true, true, true, true, true, true, true, false, true, false, true, true, true, true, false, true, true, false, false, false, false, false, false, false, false, false]
abbrev sidingref15_Widen.Bz23 : Array Bool := #[true, true, true, true, true, true, true, true, true, true, true, true, true, true, true, false, true, false, true, true, true, true, false, true, true, true, false, false, false, false, false, false, false, false]
abbrev sidingref15_Widen.Bz24 : Array Bool := #[true, true, true, true, true, true, true, true, true, true, true, true, true, true, true, false, true, false, true, true, true, true, false, true, true, true, true, false, false, false, false, false, false, false]
abbrev sidingref15_Widen.Bz25 : Array Bool := #[true, true, true, true, true, true, true, true, true, true, true, true, true, true, true, false, true, false, true, true, true, true, false, true, true, true, true, false, false, false, true, false, false, false]
abbrev sidingref15_Widen.Bz26 : Array Bool := #[true, true, true, true, true, true, true, true, true, true, true, true, true, true, true, true, true, false, true, true, true, true, false, true, true, true, true, false, false, false, true, false, false, false]
abbrev sidingref15_Widen.Bz27 : Array Bool := #[true, true, true, true, true, true, true, true, true, true, true, true, true, true, true, true, true, true, true, true, true, true, false, true, true, true, true, false, false, false, true, false, false, false]
abbrev sidingref15_Widen.Bz28 : Array Bool := #[true, true, true, true, true, true, true, true, true, true, true, true, true, true, true, true, true, true, true, true, true, true, true, true, true, true, true, false, false, false, true, false, false, false]
abbrev sidingref15_Widen.Bz29 : Array Bool := #[true, true, true, true, true, true, true, true, true, true, true, true, true, true, true, true, true, true, true, true, true, true, true, true, true, true, true, true, false, false, true, false, false, false]
abbrev sidingref15_Widen.Bz30 : Array Bool := #[true, true, true, true, true, true, true, true, true, true, true, true, true, true, true, true, true, true, true, true, true, true, true, true, true, true, true, true, true, false, true, false, false, false]
abbrev sidingref15_Widen.Bz31 : Array Bool := #[true, true, true, true, true, true, true, true, true, true, true, true, true, true, true, true, true, true, true, true, true, true, true, true, true, true, true, true, true, true, true, false, false, false]
abbrev sidingref15_Widen.Bz32 : Array Bool := #[true, true, true, true, true, true, true, true, true, true, true, true, true, true, true, true, true, true, true, true, true, true, true, true, true, true, true, true, true, true, true, true, false, false]
abbrev sidingref15_Widen.Bz33 : Array Bool := #[true, true, true, true, true, true, true, true, true, true, true, true, true, true, true, true, true, true, true, true, true, true, true, true, true, true, true, true, true, true, true, true, true, false]
abbrev sidingref15_Widen.Bz34 : Array Bool := #[true, true, true, true, true, true, true, true, true, true, true, true, true, true, true, true, true, true, true, true, true, true, true, true, true, true, true, true, true, true, true, true, true, true]
abbrev sidingref15_Widen.Bz35 : Array Bool := #[true, true, true, true, true, true, true, true, true, true, true, true, true, true, true, true, false, false, false, false, false, false, false, false, false, false, false, false, false, false, false, false, false, false]
abbrev sidingref15_Widen.Bz36 : Array Bool := #[true, true, true, true, true, true, true, true, true, true, true, true, true, true, true, true, true, false, false, false, false, false, false, false, false, false, false, false, false, false, false, false, false, false]
abbrev sidingref15_Widen.Bz37 : Array Bool := #[true, true, true, true, true, true, true, true, true, true, true, true, true, true, true, true, true, true, false, false, false, false, false, false, false, false, false, false, false, false, false, false, false, false]
abbrev sidingref15_Widen.Bz38 : Array Bool := #[true, true, true, true, true, true, true, true, true, true, true, true, true, true, true, true, true, true, true, false, false, false, false, false, false, false, false, false, false, false, false, false, false, false]
abbrev sidingref15_Widen.Bz39 : Array Bool := #[true, true, true, true, true, true, true, true, true, true, true, true, true, true, true, true, true, true, true, true, false, false, false, false, false, false, false, false, false, false, false, false, false, false]
abbrev sidingref15_Widen.Bz40 : Array Bool := #[true, true, true, true, true, true, true, true, true, true, true, true, true, true, true, true, true, true, true, true, true, false, false, false, false, false, false, false, false, false, false, false, false, false]
abbrev sidingref15_Widen.Bz41 : Array Bool := #[true, true, true, true, true, true, true, true, true, true, true, true, true, true, true, true, true, true, true, true, true, true, false, false, false, false, false, false, false, false, false, false, false, false]
abbrev sidingref15_Widen.Bz42 : Array Bool := #[true, true, true, true, true, true, true, true, true, true, true, true, true, true, true, true, true, true, true, true, true, true, true, false, false, false, false, false, false, false, false, false, false, false]
abbrev sidingref15_Widen.Bz43 : Array Bool := #[true, true, true, true, true, true, true, true, true, true, true, true, true, true, true, true, true, true, true, true, true, true, true, true, false, false, false, false, false, false, false, false, false, false]
abbrev sidingref15_Widen.Bz44 : Array Bool := #[true, true, true, true, true, true, true, true, true, true, true, true, true, true, true, true, true, true, true, true, true, true, true, true, true, false, false, false, false, false, false, false, false, false]
abbrev sidingref15_Widen.Bz45 : Array Bool := #[true, true, true, true, true, true, true, true, true, true, true, true, true, true, true, true, true, true, true, true, true, true, true, true, true, true, false, false, false, false, false, false, false, false]
abbrev sidingref15_Widen.Bz46 : Array Bool := #[true, true, true, true, true, true, true, true, true, true, true, true, true, true, true, true, true, true, true, true, true, true, true, true, true, true, true, false, false, false, false, false, false, false]
abbrev sidingref15_Widen.Bz47 : Array Bool := #[true, true, true, true, true, true, true, true, true, true, true, true, true, true, true, true, true, true, true, true, true, true, true, true, true, true, true, true, false, false, false, false, false, false]
abbrev sidingref15_Widen.Bz48 : Array Bool := #[true, true, true, true, true, true, true, true, true, true, true, true, true, true, true, true, true, true, true, true, true, true, true, true, true, true, true, true, true, false, false, false, false, false]
abbrev sidingref15_Widen.Bz49 : Array Bool := #[true, true, true, true, true, true, true, true, true, true, true, true, true, true, true, true, true, true, true, true, true, true, true, true, true, true, true, true, true, true, false, false, false, false]
open sidingref15_Widen in
set_option maxHeartbeats 8000000 in
set_option maxRecDepth 100000 in
theorem sidingref15_Widen.calls (k : Nat) (A0 : Option Addr) (c0 : Nat) (l0 : List ByteArray) (A1 : Option Addr) (c1 : Nat) (l1 : List (S40)) (a2 : Int) (r1 : List (S40)) (r2 : Int) (w : World) (hr0 : Kd.C Kd.string w A0 l0.length l0) (hc0 : l0.length ≤ c0) (hr1 : Kd.C k40 w A1 l1.length l1) (hc1 : l1.length ≤ c1) (h : sidingref15_Widen.f k l0 l1 a2 = some (r1, r2)) :
  Calls Try.prog 10 #[.slice A0 l0.length c0, .slice A1 l1.length c1, .int .i64 a2] w fun e w' => ∃ v0_ : Value, e = .returned (.tuple #[v0_, .int .i64 r2]) ∧ Kd.S k40 40 w' w.heap.size (fun _ => True) v0_ r1 ∧ Below w.heap.size w w' := by
 have hu40 := Try.underlying40
 have HR0 := Aside0.mk hr0
 have HC0 := Aside0.mk hc0
 clear hr0 hc0
 have HR1 := Aside0.mk hr1
 have HC1 := Aside0.mk hc1
 clear hr1 hc1
 have HB := Aside0.mk (Below.refl w.heap.size w)
 have H : ((sidingref13_Lines.f k l0).bind fun t231 => (if t231 = 0 then ((sidingref15_Check.f k l1).bind fun t233 => (if t233 = 0 then (if a2 < 0 then (sidingref15_Widen.j0 k l0 l1 a2 true) else (sidingref15_Widen.j0 k l0 l1 a2 (decide (a2 > 5)))) else ((sidingref15_Check.f k l1).bind fun t234 => (some (([] : List (S40)), t234))))) else ((sidingref13_Lines.f k l0).bind fun t232 => (some (([] : List (S40)), t232))))) = some (r1, r2) := h
 clear h
 replace H := Option.bind_eq_some_iff.mp H
 obtain ⟨t231, A40, H⟩ := H
 replace H : (if t231 = 0 then ((sidingref15_Check.f k l1).bind fun t233 => (if t233 = 0 then (if a2 < 0 then (sidingref15_Widen.j0 k l0 l1 a2 true) else (sidingref15_Widen.j0 k l0 l1 a2 (decide (a2 > 5)))) else ((sidingref15_Check.f k l1).bind fun t234 => (some (([] : List (S40)), t234))))) else ((sidingref13_Lines.f k l0).bind fun t232 => (some (([] : List (S40)), t232)))) = some (r1, r2) := H
 have A4 := Aside0.mk A40
 clear A40
 by_cases c5 : t231 = 0
 ·rw [if_pos c5] at H
  have c5b0 : (t231 == 0) = true := beq_iff_eq.mpr c5
  have c5b1 : (t231 != 0) = false := bne_eq_false_iff_eq.mpr c5
  clear c5
  replace H := Option.bind_eq_some_iff.mp H
  obtain ⟨t233, A60, H⟩ := H
  replace H : (if t233 = 0 then (if a2 < 0 then (sidingref15_Widen.j0 k l0 l1 a2 true) else (sidingref15_Widen.j0 k l0 l1 a2 (decide (a2 > 5)))) else ((sidingref15_Check.f k l1).bind fun t234 => (some (([] : List (S40)), t234)))) = some (r1, r2) := H
  have A6 := Aside0.mk A60
  clear A60
  by_cases c7 : t233 = 0
  ·rw [if_pos c7] at H
   have c7b0 : (t233 == 0) = true := beq_iff_eq.mpr c7
   have c7b1 : (t233 != 0) = false := bne_eq_false_iff_eq.mpr c7
   clear c7
   have HC8 := Aside0.mk H
   clear H
   go_enter Try.func10, Try.ntmps10
   go_upto_region 5 with (first | ((with_reducible refine gate_callee (f := 21) rfl ?_); refine goesL_ (some 17) rfl rfl Try.func21 (by kernel_rfl) rfl #[.slice A0 l0.length c0] rfl (by (try simp only [List.map_toArray, List.map_cons, List.map_nil]); first | done | rfl | (simp only [List.length_drop, List.length_take]; rfl)) ?_; (with_reducible refine (sidingref13_Lines.calls k _ _ l0 t231 _ ?side1 ?side2 A4.out).mono ?_); (case side1 => repeat (first | exact HR0.out | (with_reducible refine Kd.C_alloc ?_ _) | (with_reducible refine Kd.C_drewN ?_ _) | (with_reducible refine Kd.C_drew ?_))); (case side2 => exact HC0.out); rintro e w9 ⟨rfl, hb⟩; refine ⟨_, rfl, ?_⟩; have n0_ := Aside0.mk (below_step (by repeat (first | (with_reducible first | exact HB.out | apply below_alloc | apply pw_below_drewN | apply below_drew1) | exact HB.out)) hb); clear HB; have HB := n0_; clear n0_; (try clear hb); (try clear hb2); (try clear hk); (try clear hi)) | ((with_reducible refine gate_callee (f := 12) rfl ?_); refine goesL_ (some 22) rfl rfl Try.func12 (by kernel_rfl) rfl #[.slice A1 l1.length c1] rfl (by (try simp only [List.map_toArray, List.map_cons, List.map_nil]); first | done | rfl | (simp only [List.length_drop, List.length_take]; rfl)) ?_; (with_reducible refine (sidingref15_Check.calls k _ _ l1 t233 _ ?side1 ?side2 A6.out).mono ?_); (case side1 => repeat (first | exact (Kd.C_below HR1.out HB.out) | (with_reducible refine Kd.C_alloc ?_ _) | (with_reducible refine Kd.C_drewN ?_ _) | (with_reducible refine Kd.C_drew ?_))); (case side2 => exact HC1.out); rintro e w10 ⟨rfl, hb⟩; refine ⟨_, rfl, ?_⟩; have n0_ := Aside0.mk (below_step (by repeat (first | (with_reducible first | exact HB.out | apply below_alloc | apply pw_below_drewN | apply below_drew1) | exact HB.out)) hb); clear HB; have HB := n0_; clear n0_; (try clear hb); (try clear hb2); (try clear hk); (try clear hi)))
   (try simp only [Act.put, List.setIfInBounds_toArray, List.set_cons_zero, List.set_cons_succ])
   go_cut [31] (fun v31 wc => ∃ (kq : Nat) (x31_7 : Bool), v31 = .bool x31_7 ∧ Aside0 (sidingref15_Widen.j0 kq l0 l1 a2 x31_7 = some (r1, r2)) ∧ Aside0 (kq ≤ k) ∧ Aside0 (Below w.heap.size w wc))
   case first =>
    have H := HC8.out
    clear HC8
    by_cases c11 : a2 < 0
    ·rw [if_pos c11] at H
     have c11b0 : decide (a2 < 0) = true := decide_eq_true c11
     clear c11
     (first | rw [c11b0] | (simp only [i64_w, i32_w]; rw [c11b0]) | skip)
     have H' := Aside0.mk H
     clear H
     go_wp2
     go_meet
     case rel => exact ⟨_, (true), (by first | rfl | (simp; done) | (simp [*]; done)), H', ⟨by first | omega | exact Nat.le_refl _⟩, ⟨by repeat (first | (with_reducible first | exact HB.out | apply below_alloc | apply pw_below_drewN | apply below_drew1) | exact HB.out)⟩⟩
    ·rw [if_neg c11] at H
     have c11b0 : decide (a2 < 0) = false := decide_eq_false c11
     clear c11
     (first | rw [c11b0] | (simp only [i64_w, i32_w]; rw [c11b0]) | skip)
     have H' := Aside0.mk H
     clear H
     go_wp2
     go_meet
     case rel => exact ⟨_, (decide (a2 > 5)), (by first | rfl | (simp; done) | (simp [*]; done)), H', ⟨by first | omega | exact Nat.le_refl _⟩, ⟨by repeat (first | (with_reducible first | exact HB.out | apply below_alloc | apply pw_below_drewN | apply below_drew1) | exact HB.out)⟩⟩
   case rest =>
    clear HC8
    try clear c1
    try clear c2
    try clear p2
    try clear c5
    try clear c5b0
    try clear c5b1
    try clear c7
    try clear c7b0
    try clear c7b1
    try clear c10
    try clear c11
    try clear c11b0
    obtain ⟨kq, x31_7, rfl, HA, HJ7, HB⟩ := hcut
    cases kq with
    | zero => exact absurd HA.out (by simp [sidingref15_Widen.j0])
    | succ kj7 =>
     have H := HA.out
     clear HA
     simp only [sidingref15_Widen.j0] at H
     by_cases c12 : x31_7 = true
     ·subst c12
      have H1 : (some (([] : List (S40)), 2)) = some (r1, r2) := by rw [if_pos rfl] at H; exact H
      clear H
      have H := H1
      clear H1
      simp only [Option.some.injEq, Prod.mk.injEq] at H
      obtain ⟨rfl, rfl⟩ := H
      go_wp2
      go_ret2
      exact ⟨_, by first | rfl | (simp [errW_none, errW_some] <;> rfl) | (simp [*, errW_none, errW_some] <;> rfl), by first | exact Kd.S_nil _ _ _ _ _ | exact Kd.N_nil _ _ _ _ _ | exact Kd.V_nil _ _ _ _ _ | exact Kd.Q_nil _ _ _ _ _ | exact Kd.R_nil _ _ _ _ _, by repeat (first | (with_reducible first | exact HB.out | apply below_alloc | apply pw_below_drewN | apply below_drew1) | exact HB.out)⟩
     ·replace c12 := Bool.eq_false_iff.mpr c12
      subst c12
      have H1 : ((sidingref15_Fits.f kj7 l0 l1).bind fun t235 => (if t235 = true then (sidingref15_Widen.l0 kj7 l0 l1 a2 ([] : List (S40)) 0) else (some (([] : List (S40)), 6)))) = some (r1, r2) := by rw [if_neg (show ¬ (false = true) by decide)] at H; exact H
      clear H
      have H := H1
      clear H1
      replace H := Option.bind_eq_some_iff.mp H
      obtain ⟨t235, A130, H⟩ := H
      replace H : (if t235 = true then (sidingref15_Widen.l0 kj7 l0 l1 a2 ([] : List (S40)) 0) else (some (([] : List (S40)), 6))) = some (r1, r2) := H
      have A13 := Aside0.mk A130
      clear A130
      by_cases c14 : t235 = true
      ·subst c14
       have H1 : (sidingref15_Widen.l0 kj7 l0 l1 a2 ([] : List (S40)) 0) = some (r1, r2) := by rw [if_pos rfl] at H; exact H
       clear H
       have H := H1
       clear H1
       have H' := Aside0.mk H
       clear H
       go_wp2_with (first | ((with_reducible refine gate_callee (f := 22) rfl ?_); refine goesL_ (some 34) rfl rfl Try.func22 (by kernel_rfl) rfl #[.slice A0 l0.length c0, .slice A1 l1.length c1] rfl (by (try simp only [List.map_toArray, List.map_cons, List.map_nil]); first | done | rfl | (simp only [List.length_drop, List.length_take]; rfl)) ?_; (with_reducible refine (sidingref15_Fits.calls kj7 _ _ l0 _ _ l1 true _ ?side1 ?side2 ?side3 ?side4 A13.out).mono ?_); (case side1 => repeat (first | exact (Kd.C_below HR0.out HB.out) | (with_reducible refine Kd.C_alloc ?_ _) | (with_reducible refine Kd.C_drewN ?_ _) | (with_reducible refine Kd.C_drew ?_))); (case side2 => exact HC0.out); (case side3 => repeat (first | exact (Kd.C_below HR1.out HB.out) | (with_reducible refine Kd.C_alloc ?_ _) | (with_reducible refine Kd.C_drewN ?_ _) | (with_reducible refine Kd.C_drew ?_))); (case side4 => exact HC1.out); rintro e w15 ⟨rfl, hb⟩; refine ⟨_, rfl, ?_⟩; have n0_ := Aside0.mk (below_step (by repeat (first | (with_reducible first | exact HB.out | apply below_alloc | apply pw_below_drewN | apply below_drew1) | exact HB.out)) hb); clear HB; have HB := n0_; clear n0_; (try clear hb); (try clear hb2); (try clear hk); (try clear hi)))
       go_loopg [8, 9] kj7 (fun kq v8 v9 w' => ∃ (x8_2 : List (S40)) (x9_2 : Int), v9 = .int .i64 x9_2 ∧ Aside0 (sidingref15_Widen.l0 kq l0 l1 a2 x8_2 x9_2 = some (r1, r2)) ∧ Aside0 (kq ≤ kj7) ∧ Aside0 (Kd.S k40 40 w' w.heap.size (fun _ => True) v8 x8_2) ∧ Aside0 (Below w.heap.size w w'))
       case atStart => exact ⟨(([] : List (S40))), (0), (by first | rfl | (simp; done) | (simp [*]; done)), H', ⟨Nat.le_refl _⟩, ⟨by first | exact Kd.S_nil _ _ _ _ _ | exact Kd.N_nil _ _ _ _ _ | exact Kd.V_nil _ _ _ _ _ | exact Kd.Q_nil _ _ _ _ _ | exact Kd.R_nil _ _ _ _ _⟩, ⟨by repeat (first | (with_reducible first | exact HB.out | apply below_alloc | apply pw_below_drewN | apply below_drew1) | exact HB.out)⟩⟩
       case round =>
        clear H'
        try clear c1
        try clear c2
        try clear p2
        try clear c5
        try clear c5b0
        try clear c5b1
        try clear c7
        try clear c7b0
        try clear c7b1
        try clear c10
        try clear c11
        try clear c11b0
        try clear c12
        try clear c14
        try clear p2
        obtain ⟨x8_2, x9_2, rfl, HA, HK2, HO_8, HB⟩ := hrel
        cases gk with
        | zero => exact absurd HA.out (by simp [sidingref15_Widen.l0])
        | succ k2 =>
         have H := HA.out
         clear HA
         simp only [sidingref15_Widen.l0] at H
         by_cases c16 : x9_2 < (l1.length : Int)
         ·rw [if_pos c16] at H
          have c16b0 : decide (x9_2 < (l1.length : Int)) = true := decide_eq_true c16
          clear c16
          have HC17 := Aside0.mk H
          clear H
          go_upto_block 2 with (fail)
          go_cut [10] (fun v10 wc => ∃ (kq : Nat) (x10_16 : Int), v10 = .int .i64 x10_16 ∧ Aside0 (sidingref15_Widen.j3 kq l0 l1 a2 x8_2 x9_2 x10_16 = some (r1, r2)) ∧ Aside0 (kq ≤ k2) ∧ Aside0 (Kd.S k40 40 wc w.heap.size (fun _ => True) u8 x8_2) ∧ Aside0 (Below w.heap.size w wc))
          case first =>
           have H := HC17.out
           clear HC17
           have H' := Aside0.mk H
           clear H
           go_wp2
           go_loopg [10] k2 (fun kq v10 w' => ∃ (x10_3 : Int), v10 = .int .i64 x10_3 ∧ Aside0 (sidingref15_Widen.l1 kq l0 l1 a2 x8_2 x9_2 x10_3 = some (r1, r2)) ∧ Aside0 (kq ≤ k2) ∧ Aside0 (Kd.S k40 40 w' w.heap.size (fun _ => True) u8 x8_2) ∧ Aside0 (Below w.heap.size w w'))
           case atStart => exact ⟨(x9_2), (by first | rfl | (simp; done) | (simp [*]; done)), H', ⟨Nat.le_refl _⟩, ⟨by (with_reducible repeat (first | apply Kd.S_alloc | apply Kd.S_drewN | apply Kd.S_drew)); exact HO_8.out⟩, ⟨by repeat (first | (with_reducible first | exact HB.out | apply below_alloc | apply pw_below_drewN | apply below_drew1) | exact HB.out)⟩⟩
           case round =>
            clear H'
            try clear c1
            try clear c2
            try clear p2
            try clear c5
            try clear c5b0
            try clear c5b1
            try clear c7
            try clear c7b0
            try clear c7b1
            try clear c10
            try clear c11
            try clear c11b0
            try clear c12
            try clear c14
            try clear c16
            try clear c16b0
            try clear p2
            obtain ⟨x10_3, rfl, HA, HK3, HO_8, HB⟩ := hrel
            cases gk with
            | zero => exact absurd HA.out (by simp [sidingref15_Widen.l1])
            | succ k3 =>
             have H := HA.out
             clear HA
             simp only [sidingref15_Widen.l1] at H
             by_cases c18 : (wrap64 (x10_3 + 1)) < (l1.length : Int)
             ·rw [if_pos c18] at H
              have c18b0 : decide ((wrap64 (x10_3 + 1)) < (l1.length : Int)) = true := decide_eq_true c18
              clear c18
              (first | rw [c18b0] | (simp only [i64_w, i32_w]; rw [c18b0]) | skip)
              by_cases c19 : a2 > 0
              ·rw [if_pos c19] at H
               have c19b0 : decide (0 < a2) = true := decide_eq_true c19
               clear c19
               obtain ⟨ji20, hji20⟩ : ∃ j_ : Int, (wrap64 (x10_3 + 1)) = j_ := ⟨_, rfl⟩
               replace H : (if 0 ≤ (ji20) then (if 0 ≤ x10_3 then (if x10_3 < (l1.length : Int) then (if (wrap64 (((rd_T40 l1 (ji20)).f0) - a2)) ≤ (wrap64 ((wrap64 (((rd_T40 l1 x10_3).f0) + (((rd_T40 l1 x10_3).f1).length : Int))) + a2)) then (sidingref15_Widen.l1 k3 l0 l1 a2 x8_2 x9_2 ji20) else (sidingref15_Widen.j3 k3 l0 l1 a2 x8_2 x9_2 x10_3)) else (none)) else (none)) else (none)) = some (r1, r2) := by first | (rw [hji20] at H; exact H) | (simp only [hji20] at H ⊢; exact H)
               (try rw [hji20] at c18b0)
               have hji20w : (IntKind.i64.wrap (x10_3 + 1)) = ji20 := (i64_w _).trans hji20
               by_cases c21 : 0 ≤ (ji20)
               ·rw [if_pos c21] at H
                have c21b0 : decide (0 ≤ (ji20)) = true := decide_eq_true c21
                clear c21
                by_cases c22 : 0 ≤ x10_3
                ·rw [if_pos c22] at H
                 have c22b0 : decide (0 ≤ x10_3) = true := decide_eq_true c22
                 clear c22
                 by_cases c23 : x10_3 < (l1.length : Int)
                 ·rw [if_pos c23] at H
                  have c23b0 : decide (x10_3 < (l1.length : Int)) = true := decide_eq_true c23
                  clear c23
                  by_cases c24 : (wrap64 (((rd_T40 l1 (ji20)).f0) - a2)) ≤ (wrap64 ((wrap64 (((rd_T40 l1 x10_3).f0) + (((rd_T40 l1 x10_3).f1).length : Int))) + a2))
                  ·rw [if_pos c24] at H
                   have c24b0 : decide ((wrap64 (((rd_T40 l1 (ji20)).f0) - a2)) ≤ (wrap64 ((wrap64 (((rd_T40 l1 x10_3).f0) + (((rd_T40 l1 x10_3).f1).length : Int))) + a2))) = true := decide_eq_true c24
                   clear c24
                   have H' := Aside0.mk H
                   clear H
                   try go_wp2
                   have n0_ := Aside0.mk (Kd.S_drew HO_8.out)
                   have n1_ := Aside0.mk (below_drew1 HB.out)
                   clear HO_8
                   clear HB
                   have HO_8 := n0_
                   have HB := n1_
                   clear n0_ n1_
                   have p236 : 0 ≤ ((ji20) : Int) := of_decide_eq_true (by first | (with_reducible assumption) | assumption)
                   have q236 : (ji20) < (l1.length : Int) := of_decide_eq_true (by first | (with_reducible assumption) | assumption)
                   obtain ⟨ad236, A236_1, c236_1, A236_2, c236_2, e236, hx236_0, hx236_1, hx236_2, hl236_1, hi236_1, hl236_2, hi236_2⟩ := at_T40 HR1.out (ji20) p236 q236
                   have hw236_2 := hx236_2
                   have hw236_1 := hx236_1
                   have hw236_0 := hx236_0
                   cases e236
                   replace hx236_0 := (HB.out.cell (World.block_lt_of_cell? w _ hx236_0)).trans hx236_0
                   replace hx236_1 := (HB.out.cell (World.block_lt_of_cell? w _ hx236_1)).trans hx236_1
                   replace hx236_2 := (HB.out.cell (World.block_lt_of_cell? w _ hx236_2)).trans hx236_2
                   have HR236_1 := Aside0.mk hi236_1
                   have HC236_1 := Aside0.mk hl236_1
                   clear hi236_1 hl236_1
                   have HR236_2 := Aside0.mk hi236_2
                   have HC236_2 := Aside0.mk hl236_2
                   clear hi236_2 hl236_2
                   replace p236 := eq_true p236
                   replace q236 := eq_true q236
                   have p237 : 0 ≤ (x10_3 : Int) := of_decide_eq_true (by first | (with_reducible assumption) | assumption)
                   have q237 : x10_3 < (l1.length : Int) := of_decide_eq_true (by first | (with_reducible assumption) | assumption)
                   obtain ⟨ad237, A237_1, c237_1, A237_2, c237_2, e237, hx237_0, hx237_1, hx237_2, hl237_1, hi237_1, hl237_2, hi237_2⟩ := at_T40 HR1.out x10_3 p237 q237
                   have hw237_2 := hx237_2
                   have hw237_1 := hx237_1
                   have hw237_0 := hx237_0
                   obtain rfl : ad236 = ad237 := (by injection e237)
                   replace hx237_0 := (HB.out.cell (World.block_lt_of_cell? w _ hx237_0)).trans hx237_0
                   replace hx237_1 := (HB.out.cell (World.block_lt_of_cell? w _ hx237_1)).trans hx237_1
                   replace hx237_2 := (HB.out.cell (World.block_lt_of_cell? w _ hx237_2)).trans hx237_2
                   have HR237_1 := Aside0.mk hi237_1
                   have HC237_1 := Aside0.mk hl237_1
                   clear hi237_1 hl237_1
                   have HR237_2 := Aside0.mk hi237_2
                   have HC237_2 := Aside0.mk hl237_2
                   clear hi237_2 hl237_2
                   replace p237 := eq_true p237
                   replace q237 := eq_true q237
                   have p238 : 0 ≤ (x10_3 : Int) := of_decide_eq_true (by first | (with_reducible assumption) | assumption)
                   have q238 : x10_3 < (l1.length : Int) := of_decide_eq_true (by first | (with_reducible assumption) | assumption)
                   obtain ⟨ad238, A238_1, c238_1, A238_2, c238_2, e238, hx238_0, hx238_1, hx238_2, hl238_1, hi238_1, hl238_2, hi238_2⟩ := at_T40 HR1.out x10_3 p238 q238
                   have hw238_2 := hx238_2
                   have hw238_1 := hx238_1
                   have hw238_0 := hx238_0
                   obtain rfl : ad236 = ad238 := (by injection e238)
                   replace hx238_0 := (HB.out.cell (World.block_lt_of_cell? w _ hx238_0)).trans hx238_0
                   replace hx238_1 := (HB.out.cell (World.block_lt_of_cell? w _ hx238_1)).trans hx238_1
                   replace hx238_2 := (HB.out.cell (World.block_lt_of_cell? w _ hx238_2)).trans hx238_2
                   have HR238_1 := Aside0.mk hi238_1
                   have HC238_1 := Aside0.mk hl238_1
                   clear hi238_1 hl238_1
                   have HR238_2 := Aside0.mk hi238_2
                   have HC238_2 := Aside0.mk hl238_2
                   clear hi238_2 hl238_2
                   replace p238 := eq_true p238
                   replace q238 := eq_true q238
                   have ea_ := Option.some.inj (hx237_1.symm.trans hx238_1)
                   injection ea_ with ea_ en_ ec_
                   subst ea_
                   subst ec_
                   clear en_
                   have ea_ := Option.some.inj (hx237_2.symm.trans hx238_2)
                   injection ea_ with ea_ en_ ec_
                   subst ea_
                   subst ec_
                   clear en_
                   refine start_ (n := 34) (S := fun w' => w'.cell? (ad236.add (((ji20)).toNat * 3)) = some (.int .i64 ((rd_T40 l1 (ji20)).f0)) ∧ w'.cell? ⟨(ad236.add (((ji20)).toNat * 3)).block, (ad236.add (((ji20)).toNat * 3)).off + 1, none⟩ = some (.slice A236_1 ((rd_T40 l1 (ji20)).f1).length c236_1) ∧ w'.cell? ⟨(ad236.add (((ji20)).toNat * 3)).block, (ad236.add (((ji20)).toNat * 3)).off + 2, none⟩ = some (.slice A236_2 ((rd_T40 l1 (ji20)).f2).length c236_2) ∧ w'.cell? (ad236.add ((x10_3).toNat * 3)) = some (.int .i64 ((rd_T40 l1 x10_3).f0)) ∧ w'.cell? ⟨(ad236.add ((x10_3).toNat * 3)).block, (ad236.add ((x10_3).toNat * 3)).off + 1, none⟩ = some (.slice A237_1 ((rd_T40 l1 x10_3).f1).length c237_1) ∧ w'.cell? ⟨(ad236.add ((x10_3).toNat * 3)).block, (ad236.add ((x10_3).toNat * 3)).off + 2, none⟩ = some (.slice A237_2 ((rd_T40 l1 x10_3).f2).length c237_2) ∧ w'.cell? (ad236.add ((x10_3).toNat * 3)) = some (.int .i64 ((rd_T40 l1 x10_3).f0)) ∧ w'.cell? ⟨(ad236.add ((x10_3).toNat * 3)).block, (ad236.add ((x10_3).toNat * 3)).off + 1, none⟩ = some (.slice A237_1 ((rd_T40 l1 x10_3).f1).length c237_1) ∧ w'.cell? ⟨(ad236.add ((x10_3).toNat * 3)).block, (ad236.add ((x10_3).toNat * 3)).off + 2, none⟩ = some (.slice A237_2 ((rd_T40 l1 x10_3).f2).length c237_2)) (ds := []) Bz0 (by kernel_rfl) rfl rfl ⟨((HB.out.cell (World.block_lt_of_cell? w _ hw236_0)).trans hw236_0), ((HB.out.cell (World.block_lt_of_cell? w _ hw236_1)).trans hw236_1), ((HB.out.cell (World.block_lt_of_cell? w _ hw236_2)).trans hw236_2), ((HB.out.cell (World.block_lt_of_cell? w _ hw237_0)).trans hw237_0), ((HB.out.cell (World.block_lt_of_cell? w _ hw237_1)).trans hw237_1), ((HB.out.cell (World.block_lt_of_cell? w _ hw237_2)).trans hw237_2), ((HB.out.cell (World.block_lt_of_cell? w _ hw238_0)).trans hw238_0), ((HB.out.cell (World.block_lt_of_cell? w _ hw238_1)).trans hw238_1), ((HB.out.cell (World.block_lt_of_cell? w _ hw238_2)).trans hw238_2)⟩ (fun hHeld => ?_); refine with_tabW sidingref15_Widen.tab13 sidingref15_Widen.bits13 (fun HT_ HW_ => ?_)
                   generalize wr.drew = w25 at HO_8 HB HR236_1 HR236_2 HR237_1 HR237_2 HR238_1 HR238_2 hx236_0 hx236_1 hx236_2 hx237_0 hx237_1 hx237_2 hx238_0 hx238_1 hx238_2 hHeld ⊢
                   refine pu 0 41 Bz1 rfl rfl (any_of HT_.out (by kernel_rfl)) ?_
                   refine pu 1 42 Bz2 rfl rfl (any_of HT_.out (by kernel_rfl)) ?_
                   refine pu 2 43 Bz3 rfl rfl (any_of HT_.out (by kernel_rfl)) ?_
                   refine pu 3 44 Bz4 rfl rfl (any_of HT_.out (by kernel_rfl)) ?_
                   refine pu 4 45 Bz5 rfl rfl (any_of HT_.out (by kernel_rfl)) ?_
                   refine pu 5 46 Bz6 rfl rfl (any_of HT_.out (by kernel_rfl)) ?_
                   refine pu 6 47 Bz7 rfl rfl (any_of HT_.out (by kernel_rfl)) ?_
                   refine pu 7 48 Bz8 rfl rfl (any_of HT_.out (by kernel_rfl)) ?_
                   refine pu 8 49 Bz9 rfl rfl (any_of HT_.out (by kernel_rfl)) ?_
                   refine pu 9 50 Bz10 rfl rfl (any_of HT_.out (by kernel_rfl)) ?_
                   refine pu 10 51 Bz11 rfl rfl (any_of HT_.out (by kernel_rfl)) ?_
                   refine pu 11 52 Bz12 rfl rfl (any_of HT_.out (by kernel_rfl)) ?_
                   refine pu 12 53 Bz13 rfl rfl (any_of HT_.out (by kernel_rfl)) ?_
                   refine pu 13 54 Bz14 rfl rfl (any_of HT_.out (by kernel_rfl)) ?_
                   refine pu 14 55 Bz15 rfl rfl (any_of HT_.out (by kernel_rfl)) ?_
                   refine pu 16 57 Bz16 rfl rfl (any_of HT_.out (by kernel_rfl)) ?_
                   refine pu 18 59 Bz17 rfl rfl (any_of HT_.out (by kernel_rfl)) ?_
                   refine pu 19 60 Bz18 rfl rfl (any_of HT_.out (by kernel_rfl)) ?_
                   refine pu 20 61 Bz19 rfl rfl (any_of HT_.out (by kernel_rfl)) ?_
                   refine pu 21 62 Bz20 rfl rfl (any_of HT_.out (by kernel_rfl)) ?_
                   refine pu 23 64 Bz21 rfl rfl (any_of HT_.out (by kernel_rfl)) ?_
                   refine pu 24 65 Bz22 rfl rfl (any_of HT_.out (by kernel_rfl)) ?_
                   refine pu 25 66 Bz23 rfl rfl (any_of HT_.out (by kernel_rfl)) ?_
                   refine pu 26 67 Bz24 rfl rfl (any_of HT_.out (by kernel_rfl)) ?_
                   refine pu 30 71 Bz25 rfl rfl (any_of HT_.out (by kernel_rfl)) ?_
                   refine take_ (i := 15) (N := some 56) (v := ?_) (a' := ?_) Bz26 rfl rfl (take_ofW HT_.out HW_.out (by kernel_rfl)) (fun _ _ _ h => h) (Or.inl ⟨by rfl, ?_⟩) hHeld ?_ ?_; rotate_left; (focus rintro w' ⟨s0, s1, s2, s3, s4, s5, s6, s7, s8⟩; go_simp; with_reducible rfl); rotate_left; (focus go_simp; rfl)
                   refine pu 17 58 Bz27 rfl rfl (any_of HT_.out (by kernel_rfl)) ?_
                   refine take_ (i := 22) (N := some 63) (v := ?_) (a' := ?_) Bz28 rfl rfl (take_ofW HT_.out HW_.out (by kernel_rfl)) (fun _ _ _ h => h) (Or.inl ⟨by rfl, ?_⟩) hHeld ?_ ?_; rotate_left; (focus rintro w' ⟨s0, s1, s2, s3, s4, s5, s6, s7, s8⟩; go_simp; with_reducible rfl); rotate_left; (focus go_simp; rfl)
                   refine take_ (i := 27) (N := some 68) (v := ?_) (a' := ?_) Bz29 rfl rfl (take_ofW HT_.out HW_.out (by kernel_rfl)) (fun _ _ _ h => h) (Or.inl ⟨by rfl, ?_⟩) hHeld ?_ ?_; rotate_left; (focus rintro w' ⟨s0, s1, s2, s3, s4, s5, s6, s7, s8⟩; go_simp; with_reducible rfl); rotate_left; (focus go_simp; rfl)
                   refine pu 28 69 Bz30 rfl rfl (any_of HT_.out (by kernel_rfl)) ?_
                   refine pu 29 70 Bz31 rfl rfl (any_of HT_.out (by kernel_rfl)) ?_
                   refine pu 31 72 Bz32 rfl rfl (any_of HT_.out (by kernel_rfl)) ?_
                   refine pu 32 73 Bz33 rfl rfl (any_of HT_.out (by kernel_rfl)) ?_
                   refine pu 33 74 Bz34 rfl rfl (any_of HT_.out (by kernel_rfl)) ?_
                   refine done_ (done_of HT_.out (by kernel_rfl)) ?_
                   try go_wp2
                   go_roundg k3
                   case measure => have := HJ7.out; have := HK2.out; have := HK3.out; omega
                   case rel => exact ⟨(ji20), (by first | rfl | (simp; done) | (simp only [← hji20] <;> (first | rfl | simp)) | (simp [*]; done)), H', ⟨by have := HJ7.out; have := HK2.out; have := HK3.out; omega⟩, ⟨by (with_reducible repeat (first | apply Kd.S_alloc | apply Kd.S_drewN | apply Kd.S_drew)); exact HO_8.out⟩, ⟨by repeat (first | (with_reducible first | exact HB.out | apply below_alloc | apply pw_below_drewN | apply below_drew1) | exact HB.out)⟩⟩
                  ·rw [if_neg c24] at H
                   have c24b0 : decide ((wrap64 (((rd_T40 l1 (ji20)).f0) - a2)) ≤ (wrap64 ((wrap64 (((rd_T40 l1 x10_3).f0) + (((rd_T40 l1 x10_3).f1).length : Int))) + a2))) = false := decide_eq_false c24
                   clear c24
                   have H' := Aside0.mk H
                   clear H
                   try go_wp2
                   have n0_ := Aside0.mk (Kd.S_drew HO_8.out)
                   have n1_ := Aside0.mk (below_drew1 HB.out)
                   clear HO_8
                   clear HB
                   have HO_8 := n0_
                   have HB := n1_
                   clear n0_ n1_
                   have p236 : 0 ≤ ((ji20) : Int) := of_decide_eq_true (by first | (with_reducible assumption) | assumption)
                   have q236 : (ji20) < (l1.length : Int) := of_decide_eq_true (by first | (with_reducible assumption) | assumption)
                   obtain ⟨ad236, A236_1, c236_1, A236_2, c236_2, e236, hx236_0, hx236_1, hx236_2, hl236_1, hi236_1, hl236_2, hi236_2⟩ := at_T40 HR1.out (ji20) p236 q236
                   have hw236_2 := hx236_2
                   have hw236_1 := hx236_1
                   have hw236_0 := hx236_0
                   cases e236
                   replace hx236_0 := (HB.out.cell (World.block_lt_of_cell? w _ hx236_0)).trans hx236_0
                   replace hx236_1 := (HB.out.cell (World.block_lt_of_cell? w _ hx236_1)).trans hx236_1
                   replace hx236_2 := (HB.out.cell (World.block_lt_of_cell? w _ hx236_2)).trans hx236_2
                   have HR236_1 := Aside0.mk hi236_1
                   have HC236_1 := Aside0.mk hl236_1
                   clear hi236_1 hl236_1
                   have HR236_2 := Aside0.mk hi236_2
                   have HC236_2 := Aside0.mk hl236_2
                   clear hi236_2 hl236_2
                   replace p236 := eq_true p236
                   replace q236 := eq_true q236
                   have p237 : 0 ≤ (x10_3 : Int) := of_decide_eq_true (by first | (with_reducible assumption) | assumption)
                   have q237 : x10_3 < (l1.length : Int) := of_decide_eq_true (by first | (with_reducible assumption) | assumption)
                   obtain ⟨ad237, A237_1, c237_1, A237_2, c237_2, e237, hx237_0, hx237_1, hx237_2, hl237_1, hi237_1, hl237_2, hi237_2⟩ := at_T40 HR1.out x10_3 p237 q237
                   have hw237_2 := hx237_2
                   have hw237_1 := hx237_1
                   have hw237_0 := hx237_0
                   obtain rfl : ad236 = ad237 := (by injection e237)
                   replace hx237_0 := (HB.out.cell (World.block_lt_of_cell? w _ hx237_0)).trans hx237_0
                   replace hx237_1 := (HB.out.cell (World.block_lt_of_cell? w _ hx237_1)).trans hx237_1
                   replace hx237_2 := (HB.out.cell (World.block_lt_of_cell? w _ hx237_2)).trans hx237_2
                   have HR237_1 := Aside0.mk hi237_1
                   have HC237_1 := Aside0.mk hl237_1
                   clear hi237_1 hl237_1
                   have HR237_2 := Aside0.mk hi237_2
                   have HC237_2 := Aside0.mk hl237_2
                   clear hi237_2 hl237_2
                   replace p237 := eq_true p237
                   replace q237 := eq_true q237
                   have p238 : 0 ≤ (x10_3 : Int) := of_decide_eq_true (by first | (with_reducible assumption) | assumption)
                   have q238 : x10_3 < (l1.length : Int) := of_decide_eq_true (by first | (with_reducible assumption) | assumption)
                   obtain ⟨ad238, A238_1, c238_1, A238_2, c238_2, e238, hx238_0, hx238_1, hx238_2, hl238_1, hi238_1, hl238_2, hi238_2⟩ := at_T40 HR1.out x10_3 p238 q238
                   have hw238_2 := hx238_2
                   have hw238_1 := hx238_1
                   have hw238_0 := hx238_0
                   obtain rfl : ad236 = ad238 := (by injection e238)
                   replace hx238_0 := (HB.out.cell (World.block_lt_of_cell? w _ hx238_0)).trans hx238_0
                   replace hx238_1 := (HB.out.cell (World.block_lt_of_cell? w _ hx238_1)).trans hx238_1
                   replace hx238_2 := (HB.out.cell (World.block_lt_of_cell? w _ hx238_2)).trans hx238_2
                   have HR238_1 := Aside0.mk hi238_1
                   have HC238_1 := Aside0.mk hl238_1
                   clear hi238_1 hl238_1
                   have HR238_2 := Aside0.mk hi238_2
                   have HC238_2 := Aside0.mk hl238_2
                   clear hi238_2 hl238_2
                   replace p238 := eq_true p238
                   replace q238 := eq_true q238
                   have ea_ := Option.some.inj (hx237_1.symm.trans hx238_1)
                   injection ea_ with ea_ en_ ec_
                   subst ea_
                   subst ec_
                   clear en_
                   have ea_ := Option.some.inj (hx237_2.symm.trans hx238_2)
                   injection ea_ with ea_ en_ ec_
                   subst ea_
                   subst ec_
                   clear en_
                   refine start_ (n := 34) (S := fun w' => w'.cell? (ad236.add (((ji20)).toNat * 3)) = some (.int .i64 ((rd_T40 l1 (ji20)).f0)) ∧ w'.cell? ⟨(ad236.add (((ji20)).toNat * 3)).block, (ad236.add (((ji20)).toNat * 3)).off + 1, none⟩ = some (.slice A236_1 ((rd_T40 l1 (ji20)).f1).length c236_1) ∧ w'.cell? ⟨(ad236.add (((ji20)).toNat * 3)).block, (ad236.add (((ji20)).toNat * 3)).off + 2, none⟩ = some (.slice A236_2 ((rd_T40 l1 (ji20)).f2).length c236_2) ∧ w'.cell? (ad236.add ((x10_3).toNat * 3)) = some (.int .i64 ((rd_T40 l1 x10_3).f0)) ∧ w'.cell? ⟨(ad236.add ((x10_3).toNat * 3)).block, (ad236.add ((x10_3).toNat * 3)).off + 1, none⟩ = some (.slice A237_1 ((rd_T40 l1 x10_3).f1).length c237_1) ∧ w'.cell? ⟨(ad236.add ((x10_3).toNat * 3)).block, (ad236.add ((x10_3).toNat * 3)).off + 2, none⟩ = some (.slice A237_2 ((rd_T40 l1 x10_3).f2).length c237_2) ∧ w'.cell? (ad236.add ((x10_3).toNat * 3)) = some (.int .i64 ((rd_T40 l1 x10_3).f0)) ∧ w'.cell? ⟨(ad236.add ((x10_3).toNat * 3)).block, (ad236.add ((x10_3).toNat * 3)).off + 1, none⟩ = some (.slice A237_1 ((rd_T40 l1 x10_3).f1).length c237_1) ∧ w'.cell? ⟨(ad236.add ((x10_3).toNat * 3)).block, (ad236.add ((x10_3).toNat * 3)).off + 2, none⟩ = some (.slice A237_2 ((rd_T40 l1 x10_3).f2).length c237_2)) (ds := []) Bz0 (by kernel_rfl) rfl rfl ⟨((HB.out.cell (World.block_lt_of_cell? w _ hw236_0)).trans hw236_0), ((HB.out.cell (World.block_lt_of_cell? w _ hw236_1)).trans hw236_1), ((HB.out.cell (World.block_lt_of_cell? w _ hw236_2)).trans hw236_2), ((HB.out.cell (World.block_lt_of_cell? w _ hw237_0)).trans hw237_0), ((HB.out.cell (World.block_lt_of_cell? w _ hw237_1)).trans hw237_1), ((HB.out.cell (World.block_lt_of_cell? w _ hw237_2)).trans hw237_2), ((HB.out.cell (World.block_lt_of_cell? w _ hw238_0)).trans hw238_0), ((HB.out.cell (World.block_lt_of_cell? w _ hw238_1)).trans hw238_1), ((HB.out.cell (World.block_lt_of_cell? w _ hw238_2)).trans hw238_2)⟩ (fun hHeld => ?_); refine with_tabW sidingref15_Widen.tab13 sidingref15_Widen.bits13 (fun HT_ HW_ => ?_)
                   generalize wr.drew = w26 at HO_8 HB HR236_1 HR236_2 HR237_1 HR237_2 HR238_1 HR238_2 hx236_0 hx236_1 hx236_2 hx237_0 hx237_1 hx237_2 hx238_0 hx238_1 hx238_2 hHeld ⊢
                   refine pu 0 41 Bz1 rfl rfl (any_of HT_.out (by kernel_rfl)) ?_
                   refine pu 1 42 Bz2 rfl rfl (any_of HT_.out (by kernel_rfl)) ?_
                   refine pu 2 43 Bz3 rfl rfl (any_of HT_.out (by kernel_rfl)) ?_
                   refine pu 3 44 Bz4 rfl rfl (any_of HT_.out (by kernel_rfl)) ?_
                   refine pu 4 45 Bz5 rfl rfl (any_of HT_.out (by kernel_rfl)) ?_
                   refine pu 5 46 Bz6 rfl rfl (any_of HT_.out (by kernel_rfl)) ?_
                   refine pu 6 47 Bz7 rfl rfl (any_of HT_.out (by kernel_rfl)) ?_
                   refine pu 7 48 Bz8 rfl rfl (any_of HT_.out (by kernel_rfl)) ?_
                   refine pu 8 49 Bz9 rfl rfl (any_of HT_.out (by kernel_rfl)) ?_
                   refine pu 9 50 Bz10 rfl rfl (any_of HT_.out (by kernel_rfl)) ?_
                   refine pu 10 51 Bz11 rfl rfl (any_of HT_.out (by kernel_rfl)) ?_
                   refine pu 11 52 Bz12 rfl rfl (any_of HT_.out (by kernel_rfl)) ?_
                   refine pu 12 53 Bz13 rfl rfl (any_of HT_.out (by kernel_rfl)) ?_
                   refine pu 13 54 Bz14 rfl rfl (any_of HT_.out (by kernel_rfl)) ?_
                   refine pu 14 55 Bz15 rfl rfl (any_of HT_.out (by kernel_rfl)) ?_
                   refine pu 16 57 Bz16 rfl rfl (any_of HT_.out (by kernel_rfl)) ?_
                   refine pu 18 59 Bz17 rfl rfl (any_of HT_.out (by kernel_rfl)) ?_
                   refine pu 19 60 Bz18 rfl rfl (any_of HT_.out (by kernel_rfl)) ?_
                   refine pu 20 61 Bz19 rfl rfl (any_of HT_.out (by kernel_rfl)) ?_
                   refine pu 21 62 Bz20 rfl rfl (any_of HT_.out (by kernel_rfl)) ?_
                   refine pu 23 64 Bz21 rfl rfl (any_of HT_.out (by kernel_rfl)) ?_
                   refine pu 24 65 Bz22 rfl rfl (any_of HT_.out (by kernel_rfl)) ?_
                   refine pu 25 66 Bz23 rfl rfl (any_of HT_.out (by kernel_rfl)) ?_
                   refine pu 26 67 Bz24 rfl rfl (any_of HT_.out (by kernel_rfl)) ?_
                   refine pu 30 71 Bz25 rfl rfl (any_of HT_.out (by kernel_rfl)) ?_
                   refine take_ (i := 15) (N := some 56) (v := ?_) (a' := ?_) Bz26 rfl rfl (take_ofW HT_.out HW_.out (by kernel_rfl)) (fun _ _ _ h => h) (Or.inl ⟨by rfl, ?_⟩) hHeld ?_ ?_; rotate_left; (focus rintro w' ⟨s0, s1, s2, s3, s4, s5, s6, s7, s8⟩; go_simp; with_reducible rfl); rotate_left; (focus go_simp; rfl)
                   refine pu 17 58 Bz27 rfl rfl (any_of HT_.out (by kernel_rfl)) ?_
                   refine take_ (i := 22) (N := some 63) (v := ?_) (a' := ?_) Bz28 rfl rfl (take_ofW HT_.out HW_.out (by kernel_rfl)) (fun _ _ _ h => h) (Or.inl ⟨by rfl, ?_⟩) hHeld ?_ ?_; rotate_left; (focus rintro w' ⟨s0, s1, s2, s3, s4, s5, s6, s7, s8⟩; go_simp; with_reducible rfl); rotate_left; (focus go_simp; rfl)
                   refine take_ (i := 27) (N := some 68) (v := ?_) (a' := ?_) Bz29 rfl rfl (take_ofW HT_.out HW_.out (by kernel_rfl)) (fun _ _ _ h => h) (Or.inl ⟨by rfl, ?_⟩) hHeld ?_ ?_; rotate_left; (focus rintro w' ⟨s0, s1, s2, s3, s4, s5, s6, s7, s8⟩; go_simp; with_reducible rfl); rotate_left; (focus go_simp; rfl)
                   refine pu 28 69 Bz30 rfl rfl (any_of HT_.out (by kernel_rfl)) ?_
                   refine pu 29 70 Bz31 rfl rfl (any_of HT_.out (by kernel_rfl)) ?_
                   refine pu 31 72 Bz32 rfl rfl (any_of HT_.out (by kernel_rfl)) ?_
                   refine pu 32 73 Bz33 rfl rfl (any_of HT_.out (by kernel_rfl)) ?_
                   refine pu 33 74 Bz34 rfl rfl (any_of HT_.out (by kernel_rfl)) ?_
                   refine done_ (done_of HT_.out (by kernel_rfl)) ?_
                   try go_wp2
                   go_meet
                   case rel => exact ⟨_, (x10_3), (by first | rfl | (simp; done) | (simp [*]; done)), H', ⟨by have := HJ7.out; have := HK2.out; have := HK3.out; first | omega | exact Nat.le_refl _⟩, ⟨by (with_reducible repeat (first | apply Kd.S_alloc | apply Kd.S_drewN | apply Kd.S_drew)); exact HO_8.out⟩, ⟨by repeat (first | (with_reducible first | exact HB.out | apply below_alloc | apply pw_below_drewN | apply below_drew1) | exact HB.out)⟩⟩
                 ·rw [if_neg c23] at H
                  exact absurd H (by simp)
                ·rw [if_neg c22] at H
                 exact absurd H (by simp)
               ·rw [if_neg c21] at H
                exact absurd H (by simp)
              ·rw [if_neg c19] at H
               have c19b0 : decide (0 < a2) = false := decide_eq_false c19
               clear c19
               have H' := Aside0.mk H
               clear H
               try go_wp2
               have n0_ := Aside0.mk (Kd.S_drew HO_8.out)
               have n1_ := Aside0.mk (below_drew1 HB.out)
               clear HO_8
               clear HB
               have HO_8 := n0_
               have HB := n1_
               clear n0_ n1_
               refine start_ (n := 34) (S := fun w' => True) (ds := []) Bz0 (by kernel_rfl) rfl rfl trivial (fun hHeld => ?_); refine with_tabW sidingref15_Widen.tab13 sidingref15_Widen.bits13 (fun HT_ HW_ => ?_)
               generalize wr.drew = w27 at HO_8 HB hHeld ⊢
               refine pu 0 41 Bz1 rfl rfl (any_of HT_.out (by kernel_rfl)) ?_
               refine pu 1 42 Bz2 rfl rfl (any_of HT_.out (by kernel_rfl)) ?_
               refine pu 2 43 Bz3 rfl rfl (any_of HT_.out (by kernel_rfl)) ?_
               refine pu 3 44 Bz4 rfl rfl (any_of HT_.out (by kernel_rfl)) ?_
               refine pu 4 45 Bz5 rfl rfl (any_of HT_.out (by kernel_rfl)) ?_
               refine pu 5 46 Bz6 rfl rfl (any_of HT_.out (by kernel_rfl)) ?_
               refine pu 6 47 Bz7 rfl rfl (any_of HT_.out (by kernel_rfl)) ?_
               refine pu 7 48 Bz8 rfl rfl (any_of HT_.out (by kernel_rfl)) ?_
               refine pu 8 49 Bz9 rfl rfl (any_of HT_.out (by kernel_rfl)) ?_
               refine pu 9 50 Bz10 rfl rfl (any_of HT_.out (by kernel_rfl)) ?_
               refine po 10 51 Bz11 rfl rfl (any_of HT_.out (by kernel_rfl)) ?_
               refine po 11 52 Bz12 rfl rfl (any_of HT_.out (by kernel_rfl)) ?_
               refine po 12 53 Bz13 rfl rfl (any_of HT_.out (by kernel_rfl)) ?_
               refine po 13 54 Bz14 rfl rfl (any_of HT_.out (by kernel_rfl)) ?_
               refine po 14 55 Bz15 rfl rfl (any_of HT_.out (by kernel_rfl)) ?_
               refine po 15 56 Bz35 rfl rfl (any_of HT_.out (by kernel_rfl)) ?_
               refine po 16 57 Bz36 rfl rfl (any_of HT_.out (by kernel_rfl)) ?_
               refine po 17 58 Bz37 rfl rfl (any_of HT_.out (by kernel_rfl)) ?_
               refine po 18 59 Bz38 rfl rfl (any_of HT_.out (by kernel_rfl)) ?_
               refine po 19 60 Bz39 rfl rfl (any_of HT_.out (by kernel_rfl)) ?_
               refine po 20 61 Bz40 rfl rfl (any_of HT_.out (by kernel_rfl)) ?_
               refine po 21 62 Bz41 rfl rfl (any_of HT_.out (by kernel_rfl)) ?_
               refine po 22 63 Bz42 rfl rfl (any_of HT_.out (by kernel_rfl)) ?_
               refine po 23 64 Bz43 rfl rfl (any_of HT_.out (by kernel_rfl)) ?_
               refine po 24 65 Bz44 rfl rfl (any_of HT_.out (by kernel_rfl)) ?_
               refine po 25 66 Bz45 rfl rfl (any_of HT_.out (by kernel_rfl)) ?_
               refine po 26 67 Bz46 rfl rfl (any_of HT_.out (by kernel_rfl)) ?_
               refine po 27 68 Bz47 rfl rfl (any_of HT_.out (by kernel_rfl)) ?_
               refine po 28 69 Bz48 rfl rfl (any_of HT_.out (by kernel_rfl)) ?_
               refine po 29 70 Bz49 rfl rfl (any_of HT_.out (by kernel_rfl)) ?_
               refine po 30 71 Bz31 rfl rfl (any_of HT_.out (by kernel_rfl)) ?_
               refine po 31 72 Bz32 rfl rfl (any_of HT_.out (by kernel_rfl)) ?_
               refine po 32 73 Bz33 rfl rfl (any_of HT_.out (by kernel_rfl)) ?_
               refine pu 33 74 Bz34 rfl rfl (any_of HT_.out (by kernel_rfl)) ?_
               refine done_ (done_of HT_.out (by kernel_rfl)) ?_
               try go_wp2
               go_meet
               case rel => exact ⟨_, (x10_3), (by first | rfl | (simp; done) | (simp [*]; done)), H', ⟨by have := HJ7.out; have := HK2.out; have := HK3.out; first | omega | exact Nat.le_refl _⟩, ⟨by (with_reducible repeat (first | apply Kd.S_alloc | apply Kd.S_drewN | apply Kd.S_drew)); exact HO_8.out⟩, ⟨by repeat (first | (with_reducible first | exact HB.out | apply below_alloc | apply pw_below_drewN | apply below_drew1) | exact HB.out)⟩⟩
             ·rw [if_neg c18] at H
              have c18b0 : decide ((wrap64 (x10_3 + 1)) < (l1.length : Int)) = false := decide_eq_false c18
              clear c18
              (first | rw [c18b0] | (simp only [i64_w, i32_w]; rw [c18b0]) | skip)
              have H' := Aside0.mk H
              clear H
              try go_wp2
              have n0_ := Aside0.mk (Kd.S_drew HO_8.out)
              have n1_ := Aside0.mk (below_drew1 HB.out)
              clear HO_8
              clear HB
              have HO_8 := n0_
              have HB := n1_
              clear n0_ n1_
              refine start_ (n := 34) (S := fun w' => True) (ds := []) Bz0 (by kernel_rfl) rfl rfl trivial (fun hHeld => ?_); refine with_tabW sidingref15_Widen.tab13 sidingref15_Widen.bits13 (fun HT_ HW_ => ?_)
              generalize wr.drew = w28 at HO_8 HB hHeld ⊢
              refine pu 0 41 Bz1 rfl rfl (any_of HT_.out (by kernel_rfl)) ?_
              refine pu 1 42 Bz2 rfl rfl (any_of HT_.out (by kernel_rfl)) ?_
              refine pu 2 43 Bz3 rfl rfl (any_of HT_.out (by kernel_rfl)) ?_
              refine pu 3 44 Bz4 rfl rfl (any_of HT_.out (by kernel_rfl)) ?_
              refine pu 4 45 Bz5 rfl rfl (any_of HT_.out (by kernel_rfl)) ?_
              refine pu 5 46 Bz6 rfl rfl (any_of HT_.out (by kernel_rfl)) ?_
              refine po 6 47 Bz7 rfl rfl (any_of HT_.out (by kernel_rfl)) ?_
              refine po 7 48 Bz8 rfl rfl (any_of HT_.out (by kernel_rfl)) ?_
              refine pu 8 49 Bz9 rfl rfl (any_of HT_.out (by kernel_rfl)) ?_
              refine pu 9 50 Bz10 rfl rfl (any_of HT_.out (by kernel_rfl)) ?_
              refine po 10 51 Bz11 rfl rfl (any_of HT_.out (by kernel_rfl)) ?_
              refine po 11 52 Bz12 rfl rfl (any_of HT_.out (by kernel_rfl)) ?_
              refine po 12 53 Bz13 rfl rfl (any_of HT_.out (by kernel_rfl)) ?_
              refine po 13 54 Bz14 rfl rfl (any_of HT_.out (by kernel_rfl)) ?_
              refine po 14 55 Bz15 rfl rfl (any_of HT_.out (by kernel_rfl)) ?_
              refine po 15 56 Bz35 rfl rfl (any_of HT_.out (by kernel_rfl)) ?_
              refine po 16 57 Bz36 rfl rfl (any_of HT_.out (by kernel_rfl)) ?_
              refine po 17 58 Bz37 rfl rfl (any_of HT_.out (by kernel_rfl)) ?_
              refine po 18 59 Bz38 rfl rfl (any_of HT_.out (by kernel_rfl)) ?_
              refine po 19 60 Bz39 rfl rfl (any_of HT_.out (by kernel_rfl)) ?_
              refine po 20 61 Bz40 rfl rfl (any_of HT_.out (by kernel_rfl)) ?_
              refine po 21 62 Bz41 rfl rfl (any_of HT_.out (by kernel_rfl)) ?_
              refine po 22 63 Bz42 rfl rfl (any_of HT_.out (by kernel_rfl)) ?_
              refine po 23 64 Bz43 rfl rfl (any_of HT_.out (by kernel_rfl)) ?_
              refine po 24 65 Bz44 rfl rfl (any_of HT_.out (by kernel_rfl)) ?_
              refine po 25 66 Bz45 rfl rfl (any_of HT_.out (by kernel_rfl)) ?_
              refine po 26 67 Bz46 rfl rfl (any_of HT_.out (by kernel_rfl)) ?_
              refine po 27 68 Bz47 rfl rfl (any_of HT_.out (by kernel_rfl)) ?_
              refine po 28 69 Bz48 rfl rfl (any_of HT_.out (by kernel_rfl)) ?_
              refine po 29 70 Bz49 rfl rfl (any_of HT_.out (by kernel_rfl)) ?_
              refine po 30 71 Bz31 rfl rfl (any_of HT_.out (by kernel_rfl)) ?_
              refine po 31 72 Bz32 rfl rfl (any_of HT_.out (by kernel_rfl)) ?_
              refine po 32 73 Bz33 rfl rfl (any_of HT_.out (by kernel_rfl)) ?_
              refine pu 33 74 Bz34 rfl rfl (any_of HT_.out (by kernel_rfl)) ?_
              refine done_ (done_of HT_.out (by kernel_rfl)) ?_
              try go_wp2
              go_meet
              case rel => exact ⟨_, (x10_3), (by first | rfl | (simp; done) | (simp [*]; done)), H', ⟨by have := HJ7.out; have := HK2.out; have := HK3.out; first | omega | exact Nat.le_refl _⟩, ⟨by (with_reducible repeat (first | apply Kd.S_alloc | apply Kd.S_drewN | apply Kd.S_drew)); exact HO_8.out⟩, ⟨by repeat (first | (with_reducible first | exact HB.out | apply below_alloc | apply pw_below_drewN | apply below_drew1) | exact HB.out)⟩⟩
          case rest =>
           clear HC17
           try clear c1
           try clear c2
           try clear p2
           try clear p6
           try clear c18
           try clear c18b0
           try clear c19
           try clear c19b0
           try clear c21
           try clear c22
           try clear c23
           obtain ⟨kq, x10_16, rfl, HA, HJ16, HO_8, HB⟩ := hcut
           cases kq with
           | zero => exact absurd HA.out (by simp [sidingref15_Widen.j3])
           | succ kj16 =>
            have H := HA.out
            clear HA
            simp only [sidingref15_Widen.j3] at H
            by_cases c29 : 0 ≤ x9_2
            ·rw [if_pos c29] at H
             have c29b0 : decide (0 ≤ x9_2) = true := decide_eq_true c29
             clear c29
             by_cases c30 : x9_2 < (l1.length : Int)
             ·rw [if_pos c30] at H
              have c30b0 : decide (x9_2 < (l1.length : Int)) = true := decide_eq_true c30
              clear c30
              obtain ⟨ji31, hji31⟩ : ∃ j_ : Int, (mx 0 (wrap64 (((rd_T40 l1 x9_2).f0) - a2))) = j_ := ⟨_, rfl⟩
              replace H : (if 0 ≤ x10_16 then (if x10_16 < (l1.length : Int) then ((some (([] : List ByteArray) : List ByteArray)).bind fun y242 => (if 0 ≤ (ji31) then (if (ji31) ≤ (mn (l0.length : Int) (wrap64 ((wrap64 (((rd_T40 l1 x10_16).f0) + (((rd_T40 l1 x10_16).f1).length : Int))) + a2))) then (if (mn (l0.length : Int) (wrap64 ((wrap64 (((rd_T40 l1 x10_16).f0) + (((rd_T40 l1 x10_16).f1).length : Int))) + a2))) ≤ (l0.length : Int) then (if y242.length + ((l0.take ((mn (l0.length : Int) (wrap64 ((wrap64 (((rd_T40 l1 x10_16).f0) + (((rd_T40 l1 x10_16).f1).length : Int))) + a2))) : Int).toNat).drop ((ji31) : Int).toNat).length < 8796093022208 then (sidingref15_Widen.l2 kj16 l0 l1 a2 x8_2 x10_16 (mn (l0.length : Int) (wrap64 ((wrap64 (((rd_T40 l1 x10_16).f0) + (((rd_T40 l1 x10_16).f1).length : Int))) + a2))) ji31 x9_2 ji31 (y242 ++ ((l0.take ((mn (l0.length : Int) (wrap64 ((wrap64 (((rd_T40 l1 x10_16).f0) + (((rd_T40 l1 x10_16).f1).length : Int))) + a2))) : Int).toNat).drop ((ji31) : Int).toNat)) ([] : List ByteArray)) else (none)) else (none)) else (none)) else (none))) else (none)) else (none)) = some (r1, r2) := by first | (rw [hji31] at H; exact H) | (simp only [hji31] at H ⊢; exact H)
              have hji31_ : (if 0 < (wrap64 (((rd_T40 l1 x9_2).f0) - a2)) then (wrap64 (((rd_T40 l1 x9_2).f0) - a2)) else 0) = ji31 := hji31
              by_cases c32 : 0 ≤ x10_16
              ·rw [if_pos c32] at H
               have c32b0 : decide (0 ≤ x10_16) = true := decide_eq_true c32
               clear c32
               by_cases c33 : x10_16 < (l1.length : Int)
               ·rw [if_pos c33] at H
                have c33b0 : decide (x10_16 < (l1.length : Int)) = true := decide_eq_true c33
                clear c33
                obtain ⟨ji34, hji34⟩ : ∃ j_ : Int, (mn (l0.length : Int) (wrap64 ((wrap64 (((rd_T40 l1 x10_16).f0) + (((rd_T40 l1 x10_16).f1).length : Int))) + a2))) = j_ := ⟨_, rfl⟩
                replace H : ((some (([] : List ByteArray) : List ByteArray)).bind fun y242 => (if 0 ≤ (ji31) then (if (ji31) ≤ (ji34) then (if (ji34) ≤ (l0.length : Int) then (if y242.length + ((l0.take ((ji34) : Int).toNat).drop ((ji31) : Int).toNat).length < 8796093022208 then (sidingref15_Widen.l2 kj16 l0 l1 a2 x8_2 x10_16 ji34 ji31 x9_2 ji31 (y242 ++ ((l0.take ((ji34) : Int).toNat).drop ((ji31) : Int).toNat)) ([] : List ByteArray)) else (none)) else (none)) else (none)) else (none))) = some (r1, r2) := by first | (rw [hji34] at H; exact H) | (simp only [hji34] at H ⊢; exact H)
                have hji34_ : (if (wrap64 ((wrap64 (((rd_T40 l1 x10_16).f0) + (((rd_T40 l1 x10_16).f1).length : Int))) + a2)) < (l0.length : Int) then (wrap64 ((wrap64 (((rd_T40 l1 x10_16).f0) + (((rd_T40 l1 x10_16).f1).length : Int))) + a2)) else (l0.length : Int)) = ji34 := hji34
                obtain ⟨y242, hy242⟩ : ∃ y_ : List ByteArray, y_ = (([] : List ByteArray)) := ⟨_, rfl⟩
                replace H : (if 0 ≤ (ji31) then (if (ji31) ≤ (ji34) then (if (ji34) ≤ (l0.length : Int) then (if y242.length + ((l0.take ((ji34) : Int).toNat).drop ((ji31) : Int).toNat).length < 8796093022208 then (sidingref15_Widen.l2 kj16 l0 l1 a2 x8_2 x10_16 ji34 ji31 x9_2 ji31 (y242 ++ ((l0.take ((ji34) : Int).toNat).drop ((ji31) : Int).toNat)) ([] : List ByteArray)) else (none)) else (none)) else (none)) else (none)) = some (r1, r2) := by first | (rw [hy242]; with_reducible exact H) | (have H2_ := (Option.bind_some _ _).symm.trans H; rw [hy242]; with_reducible exact H2_) | (have H2_ := (Option.bind_some _ _).symm.trans H; with_reducible exact H2_) | with_reducible exact H | (rw [hy242]; exact H) | exact H
                have Ny242 := Aside0.mk hy242
                clear hy242
                by_cases c35 : 0 ≤ (ji31)
                ·rw [if_pos c35] at H
                 have c35b0 := eq_true c35
                 have c35b1 : decide (0 ≤ (ji31)) = true := decide_eq_true c35
                 clear c35
                 by_cases c36 : (ji31) ≤ (ji34)
                 ·rw [if_pos c36] at H
                  have c36b0 := eq_true c36
                  have c36b1 : decide ((ji31) ≤ (ji34)) = true := decide_eq_true c36
                  clear c36
                  by_cases c37 : (ji34) ≤ (l0.length : Int)
                  ·rw [if_pos c37] at H
                   have c37b0 := eq_true c37
                   have c37b1 : decide ((ji34) ≤ (l0.length : Int)) = true := decide_eq_true c37
                   (try have c37m := Aside0.mk (Nat.min_eq_left (Int.toNat_le.2 c37)))
                   clear c37
                   by_cases c38 : y242.length + ((l0.take ((ji34) : Int).toNat).drop ((ji31) : Int).toNat).length < 8796093022208
                   ·rw [if_pos c38] at H
                    have LMc38 := Aside0.mk c38
                    clear c38
                    obtain ⟨y246, hy246⟩ : ∃ y_ : List ByteArray, y_ = (y242 ++ ((l0.take ((ji34) : Int).toNat).drop ((ji31) : Int).toNat)) := ⟨_, rfl⟩
                    replace H : (sidingref15_Widen.l2 kj16 l0 l1 a2 x8_2 x10_16 ji34 ji31 x9_2 ji31 y246 ([] : List ByteArray)) = some (r1, r2) := by first | (rw [hy246]; with_reducible exact H) | (have H2_ := (Option.bind_some _ _).symm.trans H; rw [hy246]; with_reducible exact H2_) | (have H2_ := (Option.bind_some _ _).symm.trans H; with_reducible exact H2_) | with_reducible exact H | (rw [hy246]; exact H) | exact H
                    have Ny246 := Aside0.mk hy246
                    clear hy246
                    have H' := Aside0.mk H
                    clear H
                    try go_wp2
                    have n0_ := Aside0.mk (Kd.S_drew HO_8.out)
                    have n1_ := Aside0.mk (below_drew1 HB.out)
                    clear HO_8
                    clear HB
                    have HO_8 := n0_
                    have HB := n1_
                    clear n0_ n1_
                    have p239 : 0 ≤ (x9_2 : Int) := of_decide_eq_true (by first | (with_reducible assumption) | assumption)
                    have q239 : x9_2 < (l1.length : Int) := of_decide_eq_true (by first | (with_reducible assumption) | assumption)
                    obtain ⟨ad239, A239_1, c239_1, A239_2, c239_2, e239, hx239_0, hx239_1, hx239_2, hl239_1, hi239_1, hl239_2, hi239_2⟩ := at_T40 HR1.out x9_2 p239 q239
                    have hw239_2 := hx239_2
                    have hw239_1 := hx239_1
                    have hw239_0 := hx239_0
                    cases e239
                    replace hx239_0 := (HB.out.cell (World.block_lt_of_cell? w _ hx239_0)).trans hx239_0
                    replace hx239_1 := (HB.out.cell (World.block_lt_of_cell? w _ hx239_1)).trans hx239_1
                    replace hx239_2 := (HB.out.cell (World.block_lt_of_cell? w _ hx239_2)).trans hx239_2
                    have HR239_1 := Aside0.mk hi239_1
                    have HC239_1 := Aside0.mk hl239_1
                    clear hi239_1 hl239_1
                    have HR239_2 := Aside0.mk hi239_2
                    have HC239_2 := Aside0.mk hl239_2
                    clear hi239_2 hl239_2
                    replace p239 := eq_true p239
                    replace q239 := eq_true q239
                    have p240 : 0 ≤ (x10_16 : Int) := of_decide_eq_true (by first | (with_reducible assumption) | assumption)
                    have q240 : x10_16 < (l1.length : Int) := of_decide_eq_true (by first | (with_reducible assumption) | assumption)
                    obtain ⟨ad240, A240_1, c240_1, A240_2, c240_2, e240, hx240_0, hx240_1, hx240_2, hl240_1, hi240_1, hl240_2, hi240_2⟩ := at_T40 HR1.out x10_16 p240 q240
                    have hw240_2 := hx240_2
                    have hw240_1 := hx240_1
                    have hw240_0 := hx240_0
                    obtain rfl : ad239 = ad240 := (by injection e240)
                    replace hx240_0 := (HB.out.cell (World.block_lt_of_cell? w _ hx240_0)).trans hx240_0
                    replace hx240_1 := (HB.out.cell (World.block_lt_of_cell? w _ hx240_1)).trans hx240_1
                    replace hx240_2 := (HB.out.cell (World.block_lt_of_cell? w _ hx240_2)).trans hx240_2
                    have HR240_1 := Aside0.mk hi240_1
                    have HC240_1 := Aside0.mk hl240_1
                    clear hi240_1 hl240_1
                    have HR240_2 := Aside0.mk hi240_2
                    have HC240_2 := Aside0.mk hl240_2
                    clear hi240_2 hl240_2
                    replace p240 := eq_true p240
                    replace q240 := eq_true q240
                    have p241 : 0 ≤ (x10_16 : Int) := of_decide_eq_true (by first | (with_reducible assumption) | assumption)
                    have q241 : x10_16 < (l1.length : Int) := of_decide_eq_true (by first | (with_reducible assumption) | assumption)
                    obtain ⟨ad241, A241_1, c241_1, A241_2, c241_2, e241, hx241_0, hx241_1, hx241_2, hl241_1, hi241_1, hl241_2, hi241_2⟩ := at_T40 HR1.out x10_16 p241 q241
                    have hw241_2 := hx241_2
                    have hw241_1 := hx241_1
                    have hw241_0 := hx241_0
                    obtain rfl : ad239 = ad241 := (by injection e241)
                    replace hx241_0 := (HB.out.cell (World.block_lt_of_cell? w _ hx241_0)).trans hx241_0
                    replace hx241_1 := (HB.out.cell (World.block_lt_of_cell? w _ hx241_1)).trans hx241_1
                    replace hx241_2 := (HB.out.cell (World.block_lt_of_cell? w _ hx241_2)).trans hx241_2
                    have HR241_1 := Aside0.mk hi241_1
                    have HC241_1 := Aside0.mk hl241_1
                    clear hi241_1 hl241_1
                    have HR241_2 := Aside0.mk hi241_2
                    have HC241_2 := Aside0.mk hl241_2
                    clear hi241_2 hl241_2
                    replace p241 := eq_true p241
                    replace q241 := eq_true q241
                    have ea_ := Option.some.inj (hx240_1.symm.trans hx241_1)
                    injection ea_ with ea_ en_ ec_
                    subst ea_
                    subst ec_
                    clear en_
                    have ea_ := Option.some.inj (hx240_2.symm.trans hx241_2)
                    injection ea_ with ea_ en_ ec_
                    subst ea_
                    subst ec_
                    clear en_
                    refine start_ (n := 27) (S := fun w' => w'.cell? (ad239.add ((x9_2).toNat * 3)) = some (.int .i64 ((rd_T40 l1 x9_2).f0)) ∧ w'.cell? ⟨(ad239.add ((x9_2).toNat * 3)).block, (ad239.add ((x9_2).toNat * 3)).off + 1, none⟩ = some (.slice A239_1 ((rd_T40 l1 x9_2).f1).length c239_1) ∧ w'.cell? ⟨(ad239.add ((x9_2).toNat * 3)).block, (ad239.add ((x9_2).toNat * 3)).off + 2, none⟩ = some (.slice A239_2 ((rd_T40 l1 x9_2).f2).length c239_2) ∧ w'.cell? (ad239.add ((x10_16).toNat * 3)) = some (.int .i64 ((rd_T40 l1 x10_16).f0)) ∧ w'.cell? ⟨(ad239.add ((x10_16).toNat * 3)).block, (ad239.add ((x10_16).toNat * 3)).off + 1, none⟩ = some (.slice A240_1 ((rd_T40 l1 x10_16).f1).length c240_1) ∧ w'.cell? ⟨(ad239.add ((x10_16).toNat * 3)).block, (ad239.add ((x10_16).toNat * 3)).off + 2, none⟩ = some (.slice A240_2 ((rd_T40 l1 x10_16).f2).length c240_2) ∧ w'.cell? (ad239.add ((x10_16).toNat * 3)) = some (.int .i64 ((rd_T40 l1 x10_16).f0)) ∧ w'.cell? ⟨(ad239.add ((x10_16).toNat * 3)).block, (ad239.add ((x10_16).toNat * 3)).off + 1, none⟩ = some (.slice A240_1 ((rd_T40 l1 x10_16).f1).length c240_1) ∧ w'.cell? ⟨(ad239.add ((x10_16).toNat * 3)).block, (ad239.add ((x10_16).toNat * 3)).off + 2, none⟩ = some (.slice A240_2 ((rd_T40 l1 x10_16).f2).length c240_2)) (ds := []) #[false, false, false, false, false, false, false, false, false, false, false, false, false, false, false, false, false, false, false, false, false, false, false, false, false, false, false] (by kernel_rfl) rfl rfl ⟨((HB.out.cell (World.block_lt_of_cell? w _ hw239_0)).trans hw239_0), ((HB.out.cell (World.block_lt_of_cell? w _ hw239_1)).trans hw239_1), ((HB.out.cell (World.block_lt_of_cell? w _ hw239_2)).trans hw239_2), ((HB.out.cell (World.block_lt_of_cell? w _ hw240_0)).trans hw240_0), ((HB.out.cell (World.block_lt_of_cell? w _ hw240_1)).trans hw240_1), ((HB.out.cell (World.block_lt_of_cell? w _ hw240_2)).trans hw240_2), ((HB.out.cell (World.block_lt_of_cell? w _ hw241_0)).trans hw241_0), ((HB.out.cell (World.block_lt_of_cell? w _ hw241_1)).trans hw241_1), ((HB.out.cell (World.block_lt_of_cell? w _ hw241_2)).trans hw241_2)⟩ (fun hHeld => ?_); refine with_tabW sidingref15_Widen.tab15 sidingref15_Widen.bits15 (fun HT_ HW_ => ?_)
                    generalize wc.drew = w39 at HO_8 HB HR239_1 HR239_2 HR240_1 HR240_2 HR241_1 HR241_2 hx239_0 hx239_1 hx239_2 hx240_0 hx240_1 hx240_2 hx241_0 hx241_1 hx241_2 hHeld ⊢
                    refine pu 0 77 #[true, false, false, false, false, false, false, false, false, false, false, false, false, false, false, false, false, false, false, false, false, false, false, false, false, false, false] rfl rfl (any_of HT_.out (by kernel_rfl)) ?_
                    refine pu 1 78 #[true, true, false, false, false, false, false, false, false, false, false, false, false, false, false, false, false, false, false, false, false, false, false, false, false, false, false] rfl rfl (any_of HT_.out (by kernel_rfl)) ?_
                    refine pu 2 79 #[true, true, true, false, false, false, false, false, false, false, false, false, false, false, false, false, false, false, false, false, false, false, false, false, false, false, false] rfl rfl (any_of HT_.out (by kernel_rfl)) ?_
                    refine pu 3 80 #[true, true, true, true, false, false, false, false, false, false, false, false, false, false, false, false, false, false, false, false, false, false, false, false, false, false, false] rfl rfl (any_of HT_.out (by kernel_rfl)) ?_
                    refine pu 5 82 #[true, true, true, true, false, true, false, false, false, false, false, false, false, false, false, false, false, false, false, false, false, false, false, false, false, false, false] rfl rfl (any_of HT_.out (by kernel_rfl)) ?_
                    refine pu 8 85 #[true, true, true, true, false, true, false, false, true, false, false, false, false, false, false, false, false, false, false, false, false, false, false, false, false, false, false] rfl rfl (any_of HT_.out (by kernel_rfl)) ?_
                    refine pu 9 86 #[true, true, true, true, false, true, false, false, true, true, false, false, false, false, false, false, false, false, false, false, false, false, false, false, false, false, false] rfl rfl (any_of HT_.out (by kernel_rfl)) ?_
                    refine pu 10 87 #[true, true, true, true, false, true, false, false, true, true, true, false, false, false, false, false, false, false, false, false, false, false, false, false, false, false, false] rfl rfl (any_of HT_.out (by kernel_rfl)) ?_
                    refine pu 11 88 #[true, true, true, true, false, true, false, false, true, true, true, true, false, false, false, false, false, false, false, false, false, false, false, false, false, false, false] rfl rfl (any_of HT_.out (by kernel_rfl)) ?_
                    refine pu 12 89 #[true, true, true, true, false, true, false, false, true, true, true, true, true, false, false, false, false, false, false, false, false, false, false, false, false, false, false] rfl rfl (any_of HT_.out (by kernel_rfl)) ?_
                    refine pu 13 90 #[true, true, true, true, false, true, false, false, true, true, true, true, true, true, false, false, false, false, false, false, false, false, false, false, false, false, false] rfl rfl (any_of HT_.out (by kernel_rfl)) ?_
                    refine pu 15 92 #[true, true, true, true, false, true, false, false, true, true, true, true, true, true, false, true, false, false, false, false, false, false, false, false, false, false, false] rfl rfl (any_of HT_.out (by kernel_rfl)) ?_
                    refine pu 16 93 #[true, true, true, true, false, true, false, false, true, true, true, true, true, true, false, true, true, false, false, false, false, false, false, false, false, false, false] rfl rfl (any_of HT_.out (by kernel_rfl)) ?_
                    refine pu 17 94 #[true, true, true, true, false, true, false, false, true, true, true, true, true, true, false, true, true, true, false, false, false, false, false, false, false, false, false] rfl rfl (any_of HT_.out (by kernel_rfl)) ?_
                    refine pu 18 95 #[true, true, true, true, false, true, false, false, true, true, true, true, true, true, false, true, true, true, true, false, false, false, false, false, false, false, false] rfl rfl (any_of HT_.out (by kernel_rfl)) ?_
                    refine pu 22 99 #[true, true, true, true, false, true, false, false, true, true, true, true, true, true, false, true, true, true, true, false, false, false, true, false, false, false, false] rfl rfl (any_of HT_.out (by kernel_rfl)) ?_
                    refine take_ (i := 4) (N := some 81) (v := ?_) (a' := ?_) #[true, true, true, true, true, true, false, false, true, true, true, true, true, true, false, true, true, true, true, false, false, false, true, false, false, false, false] rfl rfl (take_ofW HT_.out HW_.out (by kernel_rfl)) (fun _ _ _ h => h) (Or.inl ⟨by rfl, ?_⟩) hHeld ?_ ?_; rotate_left; (focus rintro w' ⟨s0, s1, s2, s3, s4, s5, s6, s7, s8⟩; go_simp; with_reducible rfl); rotate_left; (focus go_simp; rfl)
                    refine pu 6 83 #[true, true, true, true, true, true, true, false, true, true, true, true, true, true, false, true, true, true, true, false, false, false, true, false, false, false, false] rfl rfl (any_of HT_.out (by kernel_rfl)) ?_
                    refine pu 7 84 #[true, true, true, true, true, true, true, true, true, true, true, true, true, true, false, true, true, true, true, false, false, false, true, false, false, false, false] rfl rfl (any_of HT_.out (by kernel_rfl)) ?_
                    refine pu 25 11 #[true, true, true, true, true, true, true, true, true, true, true, true, true, true, false, true, true, true, true, false, false, false, true, false, false, true, false] rfl rfl (any_of HT_.out (by kernel_rfl)) ?_
                    refine take_ (i := 14) (N := some 91) (v := ?_) (a' := ?_) #[true, true, true, true, true, true, true, true, true, true, true, true, true, true, true, true, true, true, true, false, false, false, true, false, false, true, false] rfl rfl (take_ofW HT_.out HW_.out (by kernel_rfl)) (fun _ _ _ h => h) (Or.inl ⟨by rfl, ?_⟩) hHeld ?_ ?_; rotate_left; (focus rintro w' ⟨s0, s1, s2, s3, s4, s5, s6, s7, s8⟩; go_simp; with_reducible rfl); rotate_left; (focus go_simp; rfl)
                    refine take_ (i := 19) (N := some 96) (v := ?_) (a' := ?_) #[true, true, true, true, true, true, true, true, true, true, true, true, true, true, true, true, true, true, true, true, false, false, true, false, false, true, false] rfl rfl (take_ofW HT_.out HW_.out (by kernel_rfl)) (fun _ _ _ h => h) (Or.inl ⟨by rfl, ?_⟩) hHeld ?_ ?_; rotate_left; (focus rintro w' ⟨s0, s1, s2, s3, s4, s5, s6, s7, s8⟩; go_simp; with_reducible rfl); rotate_left; (focus go_simp; rfl)
                    refine pu 20 97 #[true, true, true, true, true, true, true, true, true, true, true, true, true, true, true, true, true, true, true, true, true, false, true, false, false, true, false] rfl rfl (any_of HT_.out (by kernel_rfl)) ?_
                    refine pu 21 98 #[true, true, true, true, true, true, true, true, true, true, true, true, true, true, true, true, true, true, true, true, true, true, true, false, false, true, false] rfl rfl (any_of HT_.out (by kernel_rfl)) ?_
                    refine pu 23 100 #[true, true, true, true, true, true, true, true, true, true, true, true, true, true, true, true, true, true, true, true, true, true, true, true, false, true, false] rfl rfl (any_of HT_.out (by kernel_rfl)) ?_
                    refine pu 24 101 #[true, true, true, true, true, true, true, true, true, true, true, true, true, true, true, true, true, true, true, true, true, true, true, true, true, true, false] rfl rfl (any_of HT_.out (by kernel_rfl)) ?_
                    refine pu 26 12 #[true, true, true, true, true, true, true, true, true, true, true, true, true, true, true, true, true, true, true, true, true, true, true, true, true, true, true] rfl rfl (any_of HT_.out (by kernel_rfl)) ?_
                    refine done_ (done_of HT_.out (by kernel_rfl)) ?_
                    try go_wp2_with (first | ((with_reducible refine gate_dst (N := 103) rfl ?_); (try (refine gate_guard (by rfl) ?_; dsimp only)); refine Kd.R_lit Kd.string _ 9 ?hg (N := 103) ?hd (xs := ([] : List ByteArray)) (inner := []) (ok := fun _ => True) (okp := fun _ => True) ?hr ?hp (fun _ hk => hk) trivial (Below.refl _ _) (Nat.le_refl _) (by simp) ?_; (case hd => rfl); (case hg => rfl); (case hr => first | (go_simp; done) | (go_simp; rfl)); (case hp => exact (Reps.none _ _)); intro v243 w40 ho41 hb hg_ hnew_; clear hg_ hnew_; (first | rw [← Ny242.out] at ho41 | (simp only [Int.reduceToNat] at ho41; rw [← Ny242.out] at ho41)); have n0_ := Aside0.mk (Kd.S_elder' (by (with_reducible repeat (first | apply Kd.S_alloc | apply Kd.S_drewN | apply Kd.S_drew)); exact HO_8.out) (Kd.R_base ho41) hb); have n1_ := Aside0.mk (Kd.R_lower ho41 (below_size (by repeat (first | (with_reducible first | exact HB.out | apply below_alloc | apply pw_below_drewN | apply below_drew1) | exact HB.out)))); have n2_ := Aside0.mk (below_step (by repeat (first | (with_reducible first | exact HB.out | apply below_alloc | apply pw_below_drewN | apply below_drew1) | exact HB.out)) hb); clear HO_8; clear HB; have HO_8 := n0_; have HO244 := n1_; have HB := n2_; clear n0_ n1_ n2_; clear hb ho41; obtain ⟨i042, hi042, _, hsz42, _⟩ := info_parts info9; obtain ⟨A42, hcut42, hA42, hC42⟩ := print_mid_of (P := Try.prog) Value.string (⟨#[]⟩ : ByteArray) 22 9 .i64 .i64 Try.underlying22 hi042 hsz42 A0 c0 l0 (ji31) (ji34) (of_decide_eq_true (by first | (with_reducible assumption) | assumption)) (by first | omega | exact of_decide_eq_true (by first | (with_reducible assumption) | assumption)) (of_decide_eq_true (by first | (with_reducible assumption) | assumption)) HC0.out; have HR245 := Aside0.mk (Kd.C_of_reads (h1 := fun _ => rfl) (hA42 _ (Kd.reads_of_C HR0.out))); have HC245 := Aside0.mk hC42; clear hA42 hC42 hi042 hsz42) | ((with_reducible refine gate_builtin (b := .append) (xs := #[.tmp 103, .tmp 107]) rfl ?_); (try (refine gate_guard (by rfl) ?_; dsimp only)); at_builtin; refine Kd.R_append_rows Kd.string (w0 := w) w.heap.size rfl (.tmp 103) (.tmp 107) 22 9 (.string ⟨#[]⟩) 16 rfl Try.underlying22 info9 rfl (by decide) (by omega) v243 y242 ((l0.take ((ji34) : Int).toNat).drop ((ji31) : Int).toNat) _ _ _ (fun _ => True) (fun _ => False) rfl rfl ?aO ?aR (fun _ _ h => h) (fun _ h => h.elim) ?aF ?aB ?aS ?aL ?_; (case aR => first | (rw [← show ((l0.take ((ji34) : Int).toNat).drop ((ji31) : Int).toNat).length = ((ji34).toNat - (ji31).toNat) from (by rw [List.length_drop, List.length_take]; have h_ : ((ji34) : Int) ≤ (l0.length : Int) := of_decide_eq_true (by first | (with_reducible assumption) | assumption); omega)]; repeat (first | exact (Kd.C_below HR245.out HB.out) | (with_reducible refine Kd.C_alloc ?_ _) | (with_reducible refine Kd.C_drewN ?_ _) | (with_reducible refine Kd.C_drew ?_))) | (repeat (first | exact (Kd.C_below HR245.out HB.out) | (with_reducible refine Kd.C_alloc ?_ _) | (with_reducible refine Kd.C_drewN ?_ _) | (with_reducible refine Kd.C_drew ?_)))); (case aB => exact (by repeat (first | (with_reducible first | exact HB.out | apply below_alloc | apply pw_below_drewN | apply below_drew1) | exact HB.out))); (case aF => exact (fun _ _ => trivial)); (case aO => exact (by (with_reducible repeat (first | apply Kd.R_alloc | apply Kd.R_drewN | apply Kd.R_drew)); exact HO244.out)); (case aS => exact (below_size (by repeat (first | (with_reducible first | exact HB.out | apply below_alloc | apply pw_below_drewN | apply below_drew1) | exact HB.out)))); (case aL => have := LMc38.out; have hlx_ := (show ((l0.take ((ji34) : Int).toNat).drop ((ji31) : Int).toNat).length = ((ji34).toNat - (ji31).toNat) from (by rw [List.length_drop, List.length_take]; have h_ : ((ji34) : Int) ≤ (l0.length : Int) := of_decide_eq_true (by first | (with_reducible assumption) | assumption); omega)); omega); intro v247 w43 ho hb hg hat; rw [← Ny246.out] at ho; have n0_ := Aside0.mk (Kd.S_after (ok := (fun _ => True)) (by (with_reducible repeat (first | apply Kd.S_alloc | apply Kd.S_drewN | apply Kd.S_drew)); exact HO_8.out) hg hat); have n1_ := Aside0.mk (hb); have n2_ := Aside0.mk (ho); clear HO_8; clear HB; clear HO244; have HO_8 := n0_; have HB := n1_; have HO248 := n2_; clear n0_ n1_ n2_; clear ho hb hg hat; obtain ⟨Ao44, co44, eo44⟩ := Kd.R_slice HO248.out; subst eo44) | ((with_reducible refine gate_dst (N := 13) rfl ?_); (try (refine gate_guard (by rfl) ?_; dsimp only)); refine box_event ?hg (N := 13) ?hd (cs := #[.int .i64 0, .slice none 0 0, .slice none 0 0]) (t := 40) ?hr ?_; (case hd => rfl); (case hg => rfl); (case hr => first | (go_simp; done) | (go_simp; rfl)); intro gb249 hg w45 hbox hb; have n0_ := Aside0.mk (Kd.S_below (Kd.S_elderB (by (with_reducible repeat (first | apply Kd.S_alloc | apply Kd.S_drewN | apply Kd.S_drew)); exact HO_8.out) gb249 (Nat.le_of_eq hg.symm)) hb); have n1_ := Aside0.mk (Kd.R_below (by (with_reducible repeat (first | apply Kd.R_alloc | apply Kd.R_drewN | apply Kd.R_drew)); exact HO248.out) hb); have n2_ := Aside0.mk (below_step (by repeat (first | (with_reducible first | exact HB.out | apply below_alloc | apply pw_below_drewN | apply below_drew1) | exact HB.out)) hb); have n3_ := Aside0.mk (hbox); have n4_ := Aside0.mk ((by rw [hg]; exact (below_size (by repeat (first | (with_reducible first | exact HB.out | apply below_alloc | apply pw_below_drewN | apply below_drew1) | exact HB.out))) : w.heap.size ≤ gb249)); have n5_ := Aside0.mk ((by rw [hg]; exact (below_size (by repeat (first | (with_reducible first | exact HB.out | apply below_alloc | apply pw_below_drewN | apply below_drew1) | exact HB.out))) : w.heap.size ≤ gb249)); clear HO_8; clear HO248; clear HB; have HO_8 := n0_; have HO248 := n1_; have HB := n2_; have BK249 := n3_; have GW249 := n4_; have GE249 := n5_; clear n0_ n1_ n2_ n3_ n4_ n5_; clear hb hbox hg; have hcz46_0 : w45.cell? ⟨gb249, 0, none⟩ = some (.int .i64 0) := (blk_cell BK249.out 0).trans rfl; have hcz46_1 : w45.cell? ⟨gb249, 1, none⟩ = some (.slice none 0 0) := (blk_cell BK249.out 1).trans rfl; have hcz46_2 : w45.cell? ⟨gb249, 2, none⟩ = some (.slice none 0 0) := (blk_cell BK249.out 2).trans rfl; have hfz46_0 := blk_frozen BK249.out 0; have hfz46_1 := blk_frozen BK249.out 1; have hfz46_2 := blk_frozen BK249.out 2))
                    go_loopg [14, 15] kj16 (fun kq v14 v15 w' => ∃ (x14_4 : Int) (x15_4 : Int) (x250002_4 : List ByteArray) (u250002 : Value), v14 = .int .i64 x14_4 ∧ v15 = .int .i64 x15_4 ∧ Aside0 (sidingref15_Widen.l2 kq l0 l1 a2 x8_2 x10_16 ji34 x14_4 x15_4 ji31 y246 x250002_4 = some (r1, r2)) ∧ Aside0 (kq ≤ kj16) ∧ Aside0 (Kd.S k40 40 w' w.heap.size (fun k_ => some k_ ≠ ((.slice Ao44 y246.length co44) : Value).ownBlock ∧ some k_ ≠ (u250002 : Value).ownBlock ∧ k_ ≠ gb249) u8 x8_2) ∧ Aside0 (Kd.R Kd.string 9 w' w.heap.size (fun k_ => some k_ ≠ (u250002 : Value).ownBlock) (.slice Ao44 y246.length co44) y246) ∧ Aside0 (Kd.R Kd.string 9 w' w.heap.size (fun k_ => some k_ ≠ ((.slice Ao44 y246.length co44) : Value).ownBlock) u250002 x250002_4) ∧ Aside0 (w'.heap[gb249]? = some (.cells #[.int .i64 ji31, (.slice Ao44 y246.length co44), u250002] 40 (0, 0))) ∧ Aside0 (Below w.heap.size w w'))
                    case atStart => exact ⟨(ji31), (x9_2), (([] : List ByteArray)), (.slice none 0 0), (by first | rfl | (simp; done) | (simp only [← hji31] <;> (first | rfl | simp)) | (simp [*]; done)), (by first | rfl | (simp; done) | (simp [*]; done)), H', ⟨Nat.le_refl _⟩, ⟨by (with_reducible repeat (first | apply Kd.S_alloc | apply Kd.S_drewN | apply Kd.S_drew)); exact Kd.S_mono (Kd.S_far (p := ⟨gb249, 2, none⟩) (Kd.S_far (p := ⟨gb249, 1, none⟩) (Kd.S_far (p := ⟨gb249, 0, none⟩) (Kd.S_mono HO_8.out (fun k_ hk => (⟨hk, hk.2⟩ : _ ∧ k_ ≠ gb249))) (fun _ hk => hk.2) (.int .i64 ji31)) (fun _ hk => hk.2) (.slice Ao44 y246.length co44)) (fun _ hk => hk.2) (.slice none 0 0)) (fun _ hk => ⟨hk.1.1.2, ⟨(by simp [Value.ownBlock]), hk.1.2⟩⟩)⟩, ⟨by (with_reducible repeat (first | apply Kd.R_alloc | apply Kd.R_drewN | apply Kd.R_drew)); exact Kd.R_mono (Kd.R_far (p := ⟨gb249, 2, none⟩) (Kd.R_far (p := ⟨gb249, 1, none⟩) (Kd.R_far (p := ⟨gb249, 0, none⟩) (Kd.R_types HO248.out BK249.out (by decide)) (fun _ hk => hk.2) (.int .i64 ji31)) (fun _ hk => hk.2) (.slice Ao44 y246.length co44)) (fun _ hk => hk.2) (.slice none 0 0)) (fun _ hk => (by simp [Value.ownBlock]))⟩, ⟨by first | exact Kd.R_nil _ _ _ _ _ | exact Kd.N_nil _ _ _ _ _ | exact Kd.V_nil _ _ _ _ _ | exact Kd.Q_nil _ _ _ _ _ | exact Kd.S_nil _ _ _ _ _⟩, ⟨by (with_reducible repeat (first | refine blk_drewN ?_ _ | refine blk_drew ?_ | refine blk_alloc ?_ _)); refine blk_put (cs := #[.int .i64 ji31, .slice Ao44 y246.length co44, .slice none 0 0]) ?_ 2 _ rfl; (with_reducible repeat (first | refine blk_drewN ?_ _ | refine blk_drew ?_ | refine blk_alloc ?_ _)); refine blk_put (cs := #[.int .i64 ji31, .slice none 0 0, .slice none 0 0]) ?_ 1 _ rfl; (with_reducible repeat (first | refine blk_drewN ?_ _ | refine blk_drew ?_ | refine blk_alloc ?_ _)); refine blk_put (cs := #[.int .i64 0, .slice none 0 0, .slice none 0 0]) ?_ 0 _ rfl; (with_reducible repeat (first | refine blk_drewN ?_ _ | refine blk_drew ?_ | refine blk_alloc ?_ _)); exact BK249.out⟩, ⟨by repeat (first | (with_reducible first | exact HB.out | apply below_alloc | apply pw_below_drewN | apply below_drew1 | refine below_set ?_ GE249.out) | exact HB.out)⟩⟩
                    case round =>
                     clear H'
                     try clear c1
                     try clear c2
                     try clear p2
                     try clear q2
                     try clear hx2
                     try clear c3
                     try clear p6
                     try clear c18
                     try clear c18b0
                     try clear c19
                     try clear c19b0
                     try clear c21
                     try clear c22
                     try clear c23
                     try clear p23
                     try clear q23
                     try clear hx23
                     try clear c24
                     try clear p24
                     try clear q24
                     try clear hx24
                     try clear c29
                     try clear c29b0
                     try clear c30
                     try clear c30b0
                     try clear c32
                     try clear c32b0
                     try clear c33
                     try clear c33b0
                     try clear c35
                     try clear c35b0
                     try clear c35b1
                     try clear c36
                     try clear c36b0
                     try clear c36b1
                     try clear c37
                     try clear c37b0
                     try clear c37b1
                     try clear c38
                     try clear hcz46_0
                     try clear hcz46_1
                     try clear hcz46_2
                     try clear hfz46_0
                     try clear hfz46_1
                     try clear hfz46_2
                     try clear hx239_0
                     try clear hx239_1
                     try clear hx239_2
                     try clear hx240_0
                     try clear hx240_1
                     try clear hx240_2
                     try clear hx241_0
                     try clear hx241_1
                     try clear hx241_2
                     try clear p2
                     try clear p239
                     try clear p240
                     try clear p241
                     try clear p6
                     try clear q239
                     try clear q240
                     try clear q241
                     obtain ⟨x14_4, x15_4, x250002_4, u250002, rfl, rfl, HA, HK4, HO_8, HO_250001, HO_250002, BK249, HB⟩ := hrel
                     cases gk with
                     | zero => exact absurd HA.out (by simp [sidingref15_Widen.l2])
                     | succ k4 =>
                      have H := HA.out
                      clear HA
                      simp only [sidingref15_Widen.l2] at H
                      by_cases c47 : x15_4 ≤ x10_16
                      ·rw [if_pos c47] at H
                       have c47b0 : decide (x15_4 ≤ x10_16) = true := decide_eq_true c47
                       clear c47
                       by_cases c48 : 0 ≤ x15_4
                       ·rw [if_pos c48] at H
                        have c48b0 : decide (0 ≤ x15_4) = true := decide_eq_true c48
                        clear c48
                        by_cases c49 : x15_4 < (l1.length : Int)
                        ·rw [if_pos c49] at H
                         have c49b0 : decide (x15_4 < (l1.length : Int)) = true := decide_eq_true c49
                         clear c49
                         by_cases c50 : 0 ≤ x14_4
                         ·rw [if_pos c50] at H
                          have c50b0 := eq_true c50
                          have c50b1 : decide (0 ≤ x14_4) = true := decide_eq_true c50
                          clear c50
                          by_cases c51 : x14_4 ≤ ((rd_T40 l1 x15_4).f0)
                          ·rw [if_pos c51] at H
                           have c51b0 := eq_true c51
                           have c51b1 : decide (x14_4 ≤ ((rd_T40 l1 x15_4).f0)) = true := decide_eq_true c51
                           clear c51
                           by_cases c52 : ((rd_T40 l1 x15_4).f0) ≤ (l0.length : Int)
                           ·rw [if_pos c52] at H
                            have c52b0 := eq_true c52
                            have c52b1 : decide (((rd_T40 l1 x15_4).f0) ≤ (l0.length : Int)) = true := decide_eq_true c52
                            (try have c52m := Aside0.mk (Nat.min_eq_left (Int.toNat_le.2 c52)))
                            clear c52
                            by_cases c53 : x250002_4.length + ((l0.take (((rd_T40 l1 x15_4).f0) : Int).toNat).drop (x14_4 : Int).toNat).length < 8796093022208
                            ·rw [if_pos c53] at H
                             have LMc53 := Aside0.mk c53
                             clear c53
                             obtain ⟨y252, hy252⟩ : ∃ y_ : List ByteArray, y_ = (x250002_4 ++ ((l0.take (((rd_T40 l1 x15_4).f0) : Int).toNat).drop (x14_4 : Int).toNat)) := ⟨_, rfl⟩
                             replace H : (if y252.length + ((rd_T40 l1 x15_4).f2).length < 8796093022208 then (sidingref15_Widen.l2 k4 l0 l1 a2 x8_2 x10_16 ji34 (wrap64 (((rd_T40 l1 x15_4).f0) + (((rd_T40 l1 x15_4).f1).length : Int))) (wrap64 (x15_4 + 1)) ji31 y246 (y252 ++ ((rd_T40 l1 x15_4).f2))) else (none)) = some (r1, r2) := by first | (rw [hy252]; with_reducible exact H) | (have H2_ := (Option.bind_some _ _).symm.trans H; rw [hy252]; with_reducible exact H2_) | (have H2_ := (Option.bind_some _ _).symm.trans H; with_reducible exact H2_) | with_reducible exact H | (rw [hy252]; exact H) | exact H
                             have Ny252 := Aside0.mk hy252
                             clear hy252
                             by_cases c54 : y252.length + ((rd_T40 l1 x15_4).f2).length < 8796093022208
                             ·rw [if_pos c54] at H
                              have LMc54 := Aside0.mk c54
                              clear c54
                              obtain ⟨y256, hy256⟩ : ∃ y_ : List ByteArray, y_ = (y252 ++ ((rd_T40 l1 x15_4).f2)) := ⟨_, rfl⟩
                              replace H : (sidingref15_Widen.l2 k4 l0 l1 a2 x8_2 x10_16 ji34 (wrap64 (((rd_T40 l1 x15_4).f0) + (((rd_T40 l1 x15_4).f1).length : Int))) (wrap64 (x15_4 + 1)) ji31 y246 y256) = some (r1, r2) := by first | (rw [hy256]; with_reducible exact H) | (have H2_ := (Option.bind_some _ _).symm.trans H; rw [hy256]; with_reducible exact H2_) | (have H2_ := (Option.bind_some _ _).symm.trans H; with_reducible exact H2_) | with_reducible exact H | (rw [hy256]; exact H) | exact H
                              have Ny256 := Aside0.mk hy256
                              clear hy256
                              have H' := Aside0.mk H
                              clear H
                              try go_wp2
                              have n0_ := Aside0.mk (Kd.S_drew HO_8.out)
                              have n1_ := Aside0.mk (Kd.R_drew HO_250001.out)
                              have n2_ := Aside0.mk (Kd.R_drew HO_250002.out)
                              have n3_ := Aside0.mk (blk_drew BK249.out)
                              have n4_ := Aside0.mk (below_drew1 HB.out)
                              clear HO_8
                              clear HO_250001
                              clear HO_250002
                              clear BK249
                              clear HB
                              have HO_8 := n0_
                              have HO_250001 := n1_
                              have HO_250002 := n2_
                              have BK249 := n3_
                              have HB := n4_
                              clear n0_ n1_ n2_ n3_ n4_
                              have p250 : 0 ≤ (x15_4 : Int) := of_decide_eq_true (by first | (with_reducible assumption) | assumption)
                              have q250 : x15_4 < (l1.length : Int) := of_decide_eq_true (by first | (with_reducible assumption) | assumption)
                              obtain ⟨ad250, A250_1, c250_1, A250_2, c250_2, e250, hx250_0, hx250_1, hx250_2, hl250_1, hi250_1, hl250_2, hi250_2⟩ := at_T40 HR1.out x15_4 p250 q250
                              have hw250_2 := hx250_2
                              have hw250_1 := hx250_1
                              have hw250_0 := hx250_0
                              obtain rfl : ad239 = ad250 := (by injection e250)
                              replace hx250_0 := (HB.out.cell (World.block_lt_of_cell? w _ hx250_0)).trans hx250_0
                              replace hx250_1 := (HB.out.cell (World.block_lt_of_cell? w _ hx250_1)).trans hx250_1
                              replace hx250_2 := (HB.out.cell (World.block_lt_of_cell? w _ hx250_2)).trans hx250_2
                              have HR250_1 := Aside0.mk hi250_1
                              have HC250_1 := Aside0.mk hl250_1
                              clear hi250_1 hl250_1
                              have HR250_2 := Aside0.mk hi250_2
                              have HC250_2 := Aside0.mk hl250_2
                              clear hi250_2 hl250_2
                              replace p250 := eq_true p250
                              replace q250 := eq_true q250
                              obtain ⟨i056, hi056, _, hsz56, _⟩ := info_parts info9
                              obtain ⟨A56, hcut56, hA56, hC56⟩ := print_mid_of (P := Try.prog) Value.string (⟨#[]⟩ : ByteArray) 22 9 .i64 .i64 Try.underlying22 hi056 hsz56 A0 c0 l0 x14_4 ((rd_T40 l1 x15_4).f0) (of_decide_eq_true (by first | (with_reducible assumption) | assumption)) (by first | omega | exact of_decide_eq_true (by first | (with_reducible assumption) | assumption)) (of_decide_eq_true (by first | (with_reducible assumption) | assumption)) HC0.out
                              have HR251 := Aside0.mk (Kd.C_of_reads (h1 := fun _ => rfl) (hA56 _ (Kd.reads_of_C HR0.out)))
                              have HC251 := Aside0.mk hC56
                              clear hA56 hC56 hi056 hsz56
                              have p255 : 0 ≤ (x15_4 : Int) := of_decide_eq_true (by first | (with_reducible assumption) | assumption)
                              have q255 : x15_4 < (l1.length : Int) := of_decide_eq_true (by first | (with_reducible assumption) | assumption)
                              obtain ⟨ad255, A255_1, c255_1, A255_2, c255_2, e255, hx255_0, hx255_1, hx255_2, hl255_1, hi255_1, hl255_2, hi255_2⟩ := at_T40 HR1.out x15_4 p255 q255
                              have hw255_2 := hx255_2
                              have hw255_1 := hx255_1
                              have hw255_0 := hx255_0
                              obtain rfl : ad239 = ad255 := (by injection e255)
                              replace hx255_0 := (HB.out.cell (World.block_lt_of_cell? w _ hx255_0)).trans hx255_0
                              replace hx255_1 := (HB.out.cell (World.block_lt_of_cell? w _ hx255_1)).trans hx255_1
                              replace hx255_2 := (HB.out.cell (World.block_lt_of_cell? w _ hx255_2)).trans hx255_2
                              have HR255_1 := Aside0.mk hi255_1
                              have HC255_1 := Aside0.mk hl255_1
                              clear hi255_1 hl255_1
                              have HR255_2 := Aside0.mk hi255_2
                              have HC255_2 := Aside0.mk hl255_2
                              clear hi255_2 hl255_2
                              replace p255 := eq_true p255
                              replace q255 := eq_true q255
                              have ea_ := Option.some.inj (hx250_1.symm.trans hx255_1)
                              injection ea_ with ea_ en_ ec_
                              subst ea_
                              subst ec_
                              clear en_
                              have ea_ := Option.some.inj (hx250_2.symm.trans hx255_2)
                              injection ea_ with ea_ en_ ec_
                              subst ea_
                              subst ec_
                              clear en_
                              refine start_ (n := 19) (S := fun w' => w'.cell? ⟨gb249, 0, none⟩ = some (.int .i64 ji31) ∧ w'.cell? ⟨gb249, 1, none⟩ = some (.slice Ao44 y246.length co44) ∧ w'.cell? ⟨gb249, 2, none⟩ = some (u250002) ∧ w'.cell? (ad239.add ((x15_4).toNat * 3)) = some (.int .i64 ((rd_T40 l1 x15_4).f0)) ∧ w'.cell? ⟨(ad239.add ((x15_4).toNat * 3)).block, (ad239.add ((x15_4).toNat * 3)).off + 1, none⟩ = some (.slice A250_1 ((rd_T40 l1 x15_4).f1).length c250_1) ∧ w'.cell? ⟨(ad239.add ((x15_4).toNat * 3)).block, (ad239.add ((x15_4).toNat * 3)).off + 2, none⟩ = some (.slice A250_2 ((rd_T40 l1 x15_4).f2).length c250_2) ∧ w'.cell? (ad239.add ((x15_4).toNat * 3)) = some (.int .i64 ((rd_T40 l1 x15_4).f0)) ∧ w'.cell? ⟨(ad239.add ((x15_4).toNat * 3)).block, (ad239.add ((x15_4).toNat * 3)).off + 1, none⟩ = some (.slice A250_1 ((rd_T40 l1 x15_4).f1).length c250_1) ∧ w'.cell? ⟨(ad239.add ((x15_4).toNat * 3)).block, (ad239.add ((x15_4).toNat * 3)).off + 2, none⟩ = some (.slice A250_2 ((rd_T40 l1 x15_4).f2).length c250_2)) (ds := [18]) #[false, false, false, false, false, false, false, false, false, false, false, false, false, false, false, false, false, false, false] (by kernel_rfl) rfl rfl ⟨(blk_cell BK249.out 0).trans rfl, (blk_cell BK249.out 1).trans rfl, (blk_cell BK249.out 2).trans rfl, ((HB.out.cell (World.block_lt_of_cell? w _ hw250_0)).trans hw250_0), ((HB.out.cell (World.block_lt_of_cell? w _ hw250_1)).trans hw250_1), ((HB.out.cell (World.block_lt_of_cell? w _ hw250_2)).trans hw250_2), ((HB.out.cell (World.block_lt_of_cell? w _ hw255_0)).trans hw255_0), ((HB.out.cell (World.block_lt_of_cell? w _ hw255_1)).trans hw255_1), ((HB.out.cell (World.block_lt_of_cell? w _ hw255_2)).trans hw255_2)⟩ (fun hHeld => ?_); refine with_tabW sidingref15_Widen.tab21 sidingref15_Widen.bits21 (fun HT_ HW_ => ?_)
                              generalize wr.drew = w55 at HO_8 HO_250001 HO_250002 BK249 HB HR250_1 HR250_2 HR251 HR255_1 HR255_2 hx250_0 hx250_1 hx250_2 hx255_0 hx255_1 hx255_2 hHeld ⊢
                              refine pu 0 117 #[true, false, false, false, false, false, false, false, false, false, false, false, false, false, false, false, false, false, false] rfl rfl (any_of HT_.out (by kernel_rfl)) ?_
                              refine pu 2 119 #[true, false, true, false, false, false, false, false, false, false, false, false, false, false, false, false, false, false, false] rfl rfl (any_of HT_.out (by kernel_rfl)) ?_
                              refine pu 3 120 #[true, false, true, true, false, false, false, false, false, false, false, false, false, false, false, false, false, false, false] rfl rfl (any_of HT_.out (by kernel_rfl)) ?_
                              refine pu 4 121 #[true, false, true, true, true, false, false, false, false, false, false, false, false, false, false, false, false, false, false] rfl rfl (any_of HT_.out (by kernel_rfl)) ?_
                              refine pu 5 122 #[true, false, true, true, true, true, false, false, false, false, false, false, false, false, false, false, false, false, false] rfl rfl (any_of HT_.out (by kernel_rfl)) ?_
                              refine pu 6 123 #[true, false, true, true, true, true, true, false, false, false, false, false, false, false, false, false, false, false, false] rfl rfl (any_of HT_.out (by kernel_rfl)) ?_
                              refine pu 7 124 #[true, false, true, true, true, true, true, true, false, false, false, false, false, false, false, false, false, false, false] rfl rfl (any_of HT_.out (by kernel_rfl)) ?_
                              refine pu 11 128 #[true, false, true, true, true, true, true, true, false, false, false, true, false, false, false, false, false, false, false] rfl rfl (any_of HT_.out (by kernel_rfl)) ?_
                              refine pu 12 129 #[true, false, true, true, true, true, true, true, false, false, false, true, true, false, false, false, false, false, false] rfl rfl (any_of HT_.out (by kernel_rfl)) ?_
                              refine pu 13 130 #[true, false, true, true, true, true, true, true, false, false, false, true, true, true, false, false, false, false, false] rfl rfl (any_of HT_.out (by kernel_rfl)) ?_
                              refine pu 14 131 #[true, false, true, true, true, true, true, true, false, false, false, true, true, true, true, false, false, false, false] rfl rfl (any_of HT_.out (by kernel_rfl)) ?_
                              refine take_ (i := 1) (N := some 118) (v := ?_) (a' := ?_) #[true, true, true, true, true, true, true, true, false, false, false, true, true, true, true, false, false, false, false] rfl rfl (take_ofW HT_.out HW_.out (by kernel_rfl)) (fun _ _ _ h => h) (Or.inl ⟨by rfl, ?_⟩) hHeld ?_ ?_; rotate_left; (focus rintro w' ⟨s0, s1, s2, s3, s4, s5, s6, s7, s8⟩; go_simp; with_reducible rfl); rotate_left; (focus go_simp; rfl)
                              refine take_ (i := 8) (N := some 125) (v := ?_) (a' := ?_) #[true, true, true, true, true, true, true, true, true, false, false, true, true, true, true, false, false, false, false] rfl rfl (take_ofW HT_.out HW_.out (by kernel_rfl)) (fun _ _ _ h => h) (Or.inl ⟨by rfl, ?_⟩) hHeld ?_ ?_; rotate_left; (focus rintro w' ⟨s0, s1, s2, s3, s4, s5, s6, s7, s8⟩; go_simp; with_reducible rfl); rotate_left; (focus go_simp; rfl)
                              refine pu 9 126 #[true, true, true, true, true, true, true, true, true, true, false, true, true, true, true, false, false, false, false] rfl rfl (any_of HT_.out (by kernel_rfl)) ?_
                              refine take_ (i := 15) (N := some 132) (v := ?_) (a' := ?_) #[true, true, true, true, true, true, true, true, true, true, false, true, true, true, true, true, false, false, false] rfl rfl (take_ofW HT_.out HW_.out (by kernel_rfl)) (fun _ _ _ h => h) (Or.inl ⟨by rfl, ?_⟩) hHeld ?_ ?_; rotate_left; (focus rintro w' ⟨s0, s1, s2, s3, s4, s5, s6, s7, s8⟩; go_simp; with_reducible rfl); rotate_left; (focus go_simp; rfl)
                              refine one_ (i := 10) (N := some 127) #[true, true, true, true, true, true, true, true, true, true, true, true, true, true, true, true, false, false, false] rfl rfl (one_of HT_.out (by kernel_rfl)) (by decide) (fun K hK => ?_)
                              refine Kd.R_append_rows_step Kd.string (w0 := w) w.heap.size (by rfl) (.tmp 118) (.tmp 126) 22 9 (.string ⟨#[]⟩) 16 rfl Try.underlying22 info9 rfl (by decide) (by omega) u250002 x250002_4 ((l0.take (((rd_T40 l1 x15_4).f0) : Int).toNat).drop (x14_4 : Int).toNat) _ _ _ (fun k_ => some k_ ≠ (.slice Ao44 y246.length co44 : Value).ownBlock) (fun _ => False) rfl rfl ?aO ?aR (fun _ _ h => h) (fun _ h => h.elim) ?aF ?aB ?aS ?aL ?_
                              (case aR => first | (rw [← show ((l0.take (((rd_T40 l1 x15_4).f0) : Int).toNat).drop (x14_4 : Int).toNat).length = (((rd_T40 l1 x15_4).f0).toNat - x14_4.toNat) from (by rw [List.length_drop, List.length_take]; have h_ : (((rd_T40 l1 x15_4).f0) : Int) ≤ (l0.length : Int) := of_decide_eq_true (by first | (with_reducible assumption) | assumption); omega)]; repeat (first | exact (Kd.C_below HR251.out HB.out) | (with_reducible refine Kd.C_alloc ?_ _) | (with_reducible refine Kd.C_drewN ?_ _) | (with_reducible refine Kd.C_drew ?_))) | (repeat (first | exact (Kd.C_below HR251.out HB.out) | (with_reducible refine Kd.C_alloc ?_ _) | (with_reducible refine Kd.C_drewN ?_ _) | (with_reducible refine Kd.C_drew ?_))))
                              (case aB => exact (by repeat (first | (with_reducible first | exact HB.out | apply below_alloc | apply pw_below_drewN | apply below_drew1 | refine below_set ?_ GE249.out) | exact HB.out)))
                              (case aF => exact (fun k_ hk => Kd.fresh' (Kd.R_lt (by (with_reducible repeat (first | apply Kd.R_alloc | apply Kd.R_drewN | apply Kd.R_drew)); exact HO_250001.out)) k_ hk))
                              (case aO => exact (by (with_reducible repeat (first | apply Kd.R_alloc | apply Kd.R_drewN | apply Kd.R_drew)); exact HO_250002.out))
                              (case aS => exact (below_size (by repeat (first | (with_reducible first | exact HB.out | apply below_alloc | apply pw_below_drewN | apply below_drew1 | refine below_set ?_ GE249.out) | exact HB.out))))
                              (case aL => have := LMc53.out; have hlx_ := (show ((l0.take (((rd_T40 l1 x15_4).f0) : Int).toNat).drop (x14_4 : Int).toNat).length = (((rd_T40 l1 x15_4).f0).toNat - x14_4.toNat) from (by rw [List.length_drop, List.length_take]; have h_ : (((rd_T40 l1 x15_4).f0) : Int) ≤ (l0.length : Int) := of_decide_eq_true (by first | (with_reducible assumption) | assumption); omega)); omega)
                              intro v253 w57 ho hb hg hat
                              rw [← Ny252.out] at ho
                              have n0_ := Aside0.mk (Kd.S_after (ok := (fun k_ => some k_ ≠ (.slice Ao44 y246.length co44 : Value).ownBlock ∧ k_ ≠ gb249)) (by (with_reducible repeat (first | apply Kd.S_alloc | apply Kd.S_drewN | apply Kd.S_drew)); exact Kd.S_mono HO_8.out (fun _ hk => ⟨⟨hk.1, hk.2.2⟩, hk.2.1⟩)) hg hat)
                              have n1_ := Aside0.mk (Kd.R_after (ok := (fun _ => True)) (by (with_reducible repeat (first | apply Kd.R_alloc | apply Kd.R_drewN | apply Kd.R_drew)); exact Kd.R_mono HO_250001.out (fun _ hk => ⟨trivial, hk⟩)) hg hat)
                              have n2_ := Aside0.mk (blk_grown (g := gb249) (o := .cells #[.int .i64 ji31, .slice Ao44 y246.length co44, u250002] 40 (0, 0)) (by (with_reducible repeat (first | refine blk_drewN ?_ _ | refine blk_drew ?_ | refine blk_alloc ?_ _)); exact BK249.out) hg (Kd.R_ne HO_250002.out BK249.out (by decide)))
                              have n3_ := Aside0.mk (hb)
                              have n4_ := Aside0.mk (ho)
                              clear HO_8
                              clear HO_250001
                              clear BK249
                              clear HB
                              clear HO_250002
                              have HO_8 := n0_
                              have HO_250001 := n1_
                              have BK249 := n2_
                              have HB := n3_
                              have HO254 := n4_
                              clear n0_ n1_ n2_ n3_ n4_
                              clear ho hb hg hat
                              refine hK.out _ _ ⟨(blk_cell BK249.out 0).trans rfl, (blk_cell BK249.out 1).trans rfl, (blk_cell BK249.out 2).trans rfl, ((HB.out.cell (World.block_lt_of_cell? w _ hw250_0)).trans hw250_0), ((HB.out.cell (World.block_lt_of_cell? w _ hw250_1)).trans hw250_1), ((HB.out.cell (World.block_lt_of_cell? w _ hw250_2)).trans hw250_2), ((HB.out.cell (World.block_lt_of_cell? w _ hw255_0)).trans hw255_0), ((HB.out.cell (World.block_lt_of_cell? w _ hw255_1)).trans hw255_1), ((HB.out.cell (World.block_lt_of_cell? w _ hw255_2)).trans hw255_2)⟩ (fun hHeld => ?_)
                              clear hK K
                              refine norm_ (a' := ?_) ?_ ?_
                              rotate_left
                              ·show Act.put _ (some 127) _ = _
                               simp only [Act.put, List.setIfInBounds_toArray, List.set_cons_zero, List.set_cons_succ, i64_w, i32_w]
                               rfl
                              refine one_ (i := 16) (N := some 133) #[true, true, true, true, true, true, true, true, true, true, true, true, true, true, true, true, true, false, false] rfl rfl (one_of HT_.out (by kernel_rfl)) (by decide) (fun K hK => ?_)
                              refine Kd.R_append_rows_step Kd.string (w0 := w) w.heap.size (by rfl) (.tmp 127) (.tmp 132) 22 9 (.string ⟨#[]⟩) 16 rfl Try.underlying22 info9 rfl (by decide) (by omega) v253 y252 ((rd_T40 l1 x15_4).f2) _ _ _ (fun k_ => some k_ ≠ (.slice Ao44 y246.length co44 : Value).ownBlock) (fun _ => False) rfl rfl ?aO ?aR (fun _ _ h => h) (fun _ h => h.elim) ?aF ?aB ?aS ?aL ?_
                              (case aR => repeat (first | exact (Kd.C_below HR255_2.out HB.out) | (with_reducible refine Kd.C_alloc ?_ _) | (with_reducible refine Kd.C_drewN ?_ _) | (with_reducible refine Kd.C_drew ?_)))
                              (case aB => exact (by repeat (first | (with_reducible first | exact HB.out | apply below_alloc | apply pw_below_drewN | apply below_drew1 | refine below_set ?_ GE249.out) | exact HB.out)))
                              (case aF => exact (fun k_ hk => Kd.fresh' (Kd.R_lt (by (with_reducible repeat (first | apply Kd.R_alloc | apply Kd.R_drewN | apply Kd.R_drew)); exact HO_250001.out)) k_ hk))
                              (case aO => exact (by (with_reducible repeat (first | apply Kd.R_alloc | apply Kd.R_drewN | apply Kd.R_drew)); exact HO254.out))
                              (case aS => exact (below_size (by repeat (first | (with_reducible first | exact HB.out | apply below_alloc | apply pw_below_drewN | apply below_drew1 | refine below_set ?_ GE249.out) | exact HB.out))))
                              (case aL => have := LMc54.out; omega)
                              intro v257 w58 ho hb hg hat
                              rw [← Ny256.out] at ho
                              have n0_ := Aside0.mk (Kd.S_after (ok := (fun k_ => some k_ ≠ (.slice Ao44 y246.length co44 : Value).ownBlock ∧ k_ ≠ gb249)) (by (with_reducible repeat (first | apply Kd.S_alloc | apply Kd.S_drewN | apply Kd.S_drew)); exact HO_8.out) hg hat)
                              have n1_ := Aside0.mk (Kd.R_after (ok := (fun _ => True)) (by (with_reducible repeat (first | apply Kd.R_alloc | apply Kd.R_drewN | apply Kd.R_drew)); exact HO_250001.out) hg hat)
                              have n2_ := Aside0.mk (blk_grown (g := gb249) (o := .cells #[.int .i64 ji31, .slice Ao44 y246.length co44, u250002] 40 (0, 0)) (by (with_reducible repeat (first | refine blk_drewN ?_ _ | refine blk_drew ?_ | refine blk_alloc ?_ _)); exact BK249.out) hg (Kd.R_ne HO254.out BK249.out (by decide)))
                              have n3_ := Aside0.mk (hb)
                              have n4_ := Aside0.mk (ho)
                              clear HO_8
                              clear HO_250001
                              clear BK249
                              clear HB
                              clear HO254
                              have HO_8 := n0_
                              have HO_250001 := n1_
                              have BK249 := n2_
                              have HB := n3_
                              have HO258 := n4_
                              clear n0_ n1_ n2_ n3_ n4_
                              clear ho hb hg hat
                              obtain ⟨Ao59, co59, eo59⟩ := Kd.R_slice HO258.out
                              (first | subst eo59 | (injection eo59 with f1_ f2_ f3_; have f4_ := f1_.symm; have f5_ := f3_.symm; clear f1_ f2_ f3_; subst f4_; subst f5_))
                              refine hK.out _ _ ⟨(blk_cell BK249.out 0).trans rfl, (blk_cell BK249.out 1).trans rfl, (blk_cell BK249.out 2).trans rfl, ((HB.out.cell (World.block_lt_of_cell? w _ hw250_0)).trans hw250_0), ((HB.out.cell (World.block_lt_of_cell? w _ hw250_1)).trans hw250_1), ((HB.out.cell (World.block_lt_of_cell? w _ hw250_2)).trans hw250_2), ((HB.out.cell (World.block_lt_of_cell? w _ hw255_0)).trans hw255_0), ((HB.out.cell (World.block_lt_of_cell? w _ hw255_1)).trans hw255_1), ((HB.out.cell (World.block_lt_of_cell? w _ hw255_2)).trans hw255_2)⟩ (fun hHeld => ?_)
                              clear hK K
                              refine norm_ (a' := ?_) ?_ ?_
                              rotate_left
                              ·show Act.put _ (some 133) _ = _
                               simp only [Act.put, List.setIfInBounds_toArray, List.set_cons_zero, List.set_cons_succ, i64_w, i32_w]
                               rfl
                              refine pu 17 134 #[true, true, true, true, true, true, true, true, true, true, true, true, true, true, true, true, true, true, false] rfl rfl (any_of HT_.out (by kernel_rfl)) ?_
                              refine last_ (i := 18) (N := none) #[true, true, true, true, true, true, true, true, true, true, true, true, true, true, true, true, true, true, true] rfl rfl (one_of HT_.out (by kernel_rfl)) (by decide) (fun K hK => ?_)
                              have hs60 : w58.cell? ⟨gb249, 2, none⟩ = some (u250002) := (blk_cell BK249.out 2).trans rfl
                              have hfs60 := blk_frozen BK249.out 2
                              refine skip_ (w1 := ?_) (by rfl) rfl ?_ ?_
                              rotate_left
                              ·go_simp
                               rfl
                              refine hK.out _ _ ?_
                              clear hK K
                              refine done_ (done_of HT_.out (by kernel_rfl)) ?_
                              try go_wp2
                              have n0_ : Aside0 (Kd.S k40 40 (w58.setCell ⟨gb249, 2, none⟩ (.slice Ao59 y256.length co59)) w.heap.size (fun k_ => some k_ ≠ (.slice Ao44 y246.length co44 : Value).ownBlock ∧ some k_ ≠ (.slice Ao59 y256.length co59 : Value).ownBlock ∧ k_ ≠ gb249) u8 x8_2) := ⟨by (with_reducible repeat (first | apply Kd.S_alloc | apply Kd.S_drewN | apply Kd.S_drew)); exact Kd.S_mono (Kd.S_far (p := ⟨gb249, 2, none⟩) (Kd.S_mono HO_8.out (fun k_ hk => (⟨hk, hk.1.2⟩ : _ ∧ k_ ≠ gb249))) (fun _ hk => hk.2) (.slice Ao59 y256.length co59)) (fun _ hk => ⟨hk.1.1.1, ⟨hk.1.2, hk.1.1.2⟩⟩)⟩
                              have n1_ : Aside0 (Kd.R Kd.string 9 (w58.setCell ⟨gb249, 2, none⟩ (.slice Ao59 y256.length co59)) w.heap.size (fun k_ => some k_ ≠ (.slice Ao59 y256.length co59 : Value).ownBlock) (.slice Ao44 y246.length co44) y246) := ⟨by (with_reducible repeat (first | apply Kd.R_alloc | apply Kd.R_drewN | apply Kd.R_drew)); exact Kd.R_mono (Kd.R_far (p := ⟨gb249, 2, none⟩) (Kd.R_types HO_250001.out BK249.out (by decide)) (fun _ hk => hk.2) (.slice Ao59 y256.length co59)) (fun _ hk => hk.1.2)⟩
                              have n2_ : Aside0 (Kd.R Kd.string 9 (w58.setCell ⟨gb249, 2, none⟩ (.slice Ao59 y256.length co59)) w.heap.size (fun k_ => some k_ ≠ (.slice Ao44 y246.length co44 : Value).ownBlock) (.slice Ao59 y256.length co59) y256) := ⟨by (with_reducible repeat (first | apply Kd.R_alloc | apply Kd.R_drewN | apply Kd.R_drew)); exact Kd.R_mono (Kd.R_far (p := ⟨gb249, 2, none⟩) (Kd.R_types HO258.out BK249.out (by decide)) (fun _ hk => hk.2) (.slice Ao59 y256.length co59)) (fun _ hk => hk.1)⟩
                              have n3_ : Aside0 ((w58.setCell ⟨gb249, 2, none⟩ (.slice Ao59 y256.length co59)).heap[gb249]? = some (.cells #[.int .i64 ji31, .slice Ao44 y246.length co44, .slice Ao59 y256.length co59] 40 (0, 0))) := ⟨by (with_reducible repeat (first | refine blk_drewN ?_ _ | refine blk_drew ?_ | refine blk_alloc ?_ _)); refine blk_put (cs := #[.int .i64 ji31, .slice Ao44 y246.length co44, u250002]) ?_ 2 _ rfl; (with_reducible repeat (first | refine blk_drewN ?_ _ | refine blk_drew ?_ | refine blk_alloc ?_ _)); exact BK249.out⟩
                              have n4_ : Aside0 (Below w.heap.size w (w58.setCell ⟨gb249, 2, none⟩ (.slice Ao59 y256.length co59))) := ⟨by repeat (first | (with_reducible first | exact HB.out | apply below_alloc | apply pw_below_drewN | apply below_drew1 | refine below_set ?_ GE249.out) | exact HB.out)⟩
                              (try clear HO_8)
                              (try clear HO_250001)
                              (try clear HO258)
                              (try clear BK249)
                              (try clear HB)
                              generalize (w58.setCell ⟨gb249, 2, none⟩ (.slice Ao59 y256.length co59)) = w61 at n0_ n1_ n2_ n3_ n4_ ⊢
                              have HO_8 := n0_
                              have HO_250001 := n1_
                              have HO258 := n2_
                              have BK249 := n3_
                              have HB := n4_
                              clear n0_ n1_ n2_ n3_ n4_
                              have n0_ := Aside0.mk (Kd.S_drew HO_8.out)
                              have n1_ := Aside0.mk (Kd.R_drew HO_250001.out)
                              have n2_ := Aside0.mk (Kd.R_drew HO258.out)
                              have n3_ := Aside0.mk (blk_drew BK249.out)
                              have n4_ := Aside0.mk (below_drew1 HB.out)
                              clear HO_8
                              clear HO_250001
                              clear HO258
                              clear BK249
                              clear HB
                              have HO_8 := n0_
                              have HO_250001 := n1_
                              have HO258 := n2_
                              have BK249 := n3_
                              have HB := n4_
                              clear n0_ n1_ n2_ n3_ n4_
                              have p259 : 0 ≤ (x15_4 : Int) := of_decide_eq_true (by first | (with_reducible assumption) | assumption)
                              have q259 : x15_4 < (l1.length : Int) := of_decide_eq_true (by first | (with_reducible assumption) | assumption)
                              obtain ⟨ad259, A259_1, c259_1, A259_2, c259_2, e259, hx259_0, hx259_1, hx259_2, hl259_1, hi259_1, hl259_2, hi259_2⟩ := at_T40 HR1.out x15_4 p259 q259
                              have hw259_2 := hx259_2
                              have hw259_1 := hx259_1
                              have hw259_0 := hx259_0
                              obtain rfl : ad239 = ad259 := (by injection e259)
                              replace hx259_0 := (HB.out.cell (World.block_lt_of_cell? w _ hx259_0)).trans hx259_0
                              replace hx259_1 := (HB.out.cell (World.block_lt_of_cell? w _ hx259_1)).trans hx259_1
                              replace hx259_2 := (HB.out.cell (World.block_lt_of_cell? w _ hx259_2)).trans hx259_2
                              have HR259_1 := Aside0.mk hi259_1
                              have HC259_1 := Aside0.mk hl259_1
                              clear hi259_1 hl259_1
                              have HR259_2 := Aside0.mk hi259_2
                              have HC259_2 := Aside0.mk hl259_2
                              clear hi259_2 hl259_2
                              replace p259 := eq_true p259
                              replace q259 := eq_true q259
                              have p260 : 0 ≤ (x15_4 : Int) := of_decide_eq_true (by first | (with_reducible assumption) | assumption)
                              have q260 : x15_4 < (l1.length : Int) := of_decide_eq_true (by first | (with_reducible assumption) | assumption)
                              obtain ⟨ad260, A260_1, c260_1, A260_2, c260_2, e260, hx260_0, hx260_1, hx260_2, hl260_1, hi260_1, hl260_2, hi260_2⟩ := at_T40 HR1.out x15_4 p260 q260
                              have hw260_2 := hx260_2
                              have hw260_1 := hx260_1
                              have hw260_0 := hx260_0
                              obtain rfl : ad239 = ad260 := (by injection e260)
                              replace hx260_0 := (HB.out.cell (World.block_lt_of_cell? w _ hx260_0)).trans hx260_0
                              replace hx260_1 := (HB.out.cell (World.block_lt_of_cell? w _ hx260_1)).trans hx260_1
                              replace hx260_2 := (HB.out.cell (World.block_lt_of_cell? w _ hx260_2)).trans hx260_2
                              have HR260_1 := Aside0.mk hi260_1
                              have HC260_1 := Aside0.mk hl260_1
                              clear hi260_1 hl260_1
                              have HR260_2 := Aside0.mk hi260_2
                              have HC260_2 := Aside0.mk hl260_2
                              clear hi260_2 hl260_2
                              replace p260 := eq_true p260
                              replace q260 := eq_true q260
                              have ea_ := Option.some.inj (hx259_1.symm.trans hx260_1)
                              injection ea_ with ea_ en_ ec_
                              subst ea_
                              subst ec_
                              clear en_
                              have ea_ := Option.some.inj (hx259_2.symm.trans hx260_2)
                              injection ea_ with ea_ en_ ec_
                              subst ea_
                              subst ec_
                              clear en_
                              refine start_ (n := 13) (S := fun w' => w'.cell? (ad239.add ((x15_4).toNat * 3)) = some (.int .i64 ((rd_T40 l1 x15_4).f0)) ∧ w'.cell? ⟨(ad239.add ((x15_4).toNat * 3)).block, (ad239.add ((x15_4).toNat * 3)).off + 1, none⟩ = some (.slice A259_1 ((rd_T40 l1 x15_4).f1).length c259_1) ∧ w'.cell? ⟨(ad239.add ((x15_4).toNat * 3)).block, (ad239.add ((x15_4).toNat * 3)).off + 2, none⟩ = some (.slice A259_2 ((rd_T40 l1 x15_4).f2).length c259_2) ∧ w'.cell? (ad239.add ((x15_4).toNat * 3)) = some (.int .i64 ((rd_T40 l1 x15_4).f0)) ∧ w'.cell? ⟨(ad239.add ((x15_4).toNat * 3)).block, (ad239.add ((x15_4).toNat * 3)).off + 1, none⟩ = some (.slice A259_1 ((rd_T40 l1 x15_4).f1).length c259_1) ∧ w'.cell? ⟨(ad239.add ((x15_4).toNat * 3)).block, (ad239.add ((x15_4).toNat * 3)).off + 2, none⟩ = some (.slice A259_2 ((rd_T40 l1 x15_4).f2).length c259_2)) (ds := []) #[false, false, false, false, false, false, false, false, false, false, false, false, false] (by kernel_rfl) rfl rfl ⟨((HB.out.cell (World.block_lt_of_cell? w _ hw259_0)).trans hw259_0), ((HB.out.cell (World.block_lt_of_cell? w _ hw259_1)).trans hw259_1), ((HB.out.cell (World.block_lt_of_cell? w _ hw259_2)).trans hw259_2), ((HB.out.cell (World.block_lt_of_cell? w _ hw260_0)).trans hw260_0), ((HB.out.cell (World.block_lt_of_cell? w _ hw260_1)).trans hw260_1), ((HB.out.cell (World.block_lt_of_cell? w _ hw260_2)).trans hw260_2)⟩ (fun hHeld => ?_); refine with_tabW sidingref15_Widen.tab22 sidingref15_Widen.bits22 (fun HT_ HW_ => ?_)
                              generalize w61.drew = w62 at HO_8 HO_250001 HO258 BK249 HB HR259_1 HR259_2 HR260_1 HR260_2 hx259_0 hx259_1 hx259_2 hx260_0 hx260_1 hx260_2 hHeld ⊢
                              refine pu 0 135 #[true, false, false, false, false, false, false, false, false, false, false, false, false] rfl rfl (any_of HT_.out (by kernel_rfl)) ?_
                              refine pu 1 136 #[true, true, false, false, false, false, false, false, false, false, false, false, false] rfl rfl (any_of HT_.out (by kernel_rfl)) ?_
                              refine pu 2 137 #[true, true, true, false, false, false, false, false, false, false, false, false, false] rfl rfl (any_of HT_.out (by kernel_rfl)) ?_
                              refine pu 3 138 #[true, true, true, true, false, false, false, false, false, false, false, false, false] rfl rfl (any_of HT_.out (by kernel_rfl)) ?_
                              refine pu 5 140 #[true, true, true, true, false, true, false, false, false, false, false, false, false] rfl rfl (any_of HT_.out (by kernel_rfl)) ?_
                              refine pu 6 141 #[true, true, true, true, false, true, true, false, false, false, false, false, false] rfl rfl (any_of HT_.out (by kernel_rfl)) ?_
                              refine pu 7 142 #[true, true, true, true, false, true, true, true, false, false, false, false, false] rfl rfl (any_of HT_.out (by kernel_rfl)) ?_
                              refine pu 8 143 #[true, true, true, true, false, true, true, true, true, false, false, false, false] rfl rfl (any_of HT_.out (by kernel_rfl)) ?_
                              refine take_ (i := 4) (N := some 139) (v := ?_) (a' := ?_) #[true, true, true, true, true, true, true, true, true, false, false, false, false] rfl rfl (take_ofW HT_.out HW_.out (by kernel_rfl)) (fun _ _ _ h => h) (Or.inl ⟨by rfl, ?_⟩) hHeld ?_ ?_; rotate_left; (focus rintro w' ⟨s0, s1, s2, s3, s4, s5⟩; go_simp; with_reducible rfl); rotate_left; (focus go_simp; rfl)
                              refine take_ (i := 9) (N := some 144) (v := ?_) (a' := ?_) #[true, true, true, true, true, true, true, true, true, true, false, false, false] rfl rfl (take_ofW HT_.out HW_.out (by kernel_rfl)) (fun _ _ _ h => h) (Or.inl ⟨by rfl, ?_⟩) hHeld ?_ ?_; rotate_left; (focus rintro w' ⟨s0, s1, s2, s3, s4, s5⟩; go_simp; with_reducible rfl); rotate_left; (focus go_simp; rfl)
                              refine pu 10 145 #[true, true, true, true, true, true, true, true, true, true, true, false, false] rfl rfl (any_of HT_.out (by kernel_rfl)) ?_
                              refine pu 11 146 #[true, true, true, true, true, true, true, true, true, true, true, true, false] rfl rfl (any_of HT_.out (by kernel_rfl)) ?_
                              refine pu 12 14 #[true, true, true, true, true, true, true, true, true, true, true, true, true] rfl rfl (any_of HT_.out (by kernel_rfl)) ?_
                              refine done_ (done_of HT_.out (by kernel_rfl)) ?_
                              try go_wp2
                              go_roundg k4
                              case measure => have := HJ7.out; have := HK2.out; have := HJ16.out; have := HK4.out; omega
                              case rel => exact ⟨(wrap64 (((rd_T40 l1 x15_4).f0) + (((rd_T40 l1 x15_4).f1).length : Int))), (wrap64 (x15_4 + 1)), (y256), (.slice Ao59 y256.length co59), (by first | rfl | (simp; done) | (simp [*]; done)), (by first | rfl | (simp; done) | (simp [*]; done)), H', ⟨by have := HJ7.out; have := HK2.out; have := HJ16.out; have := HK4.out; omega⟩, ⟨by (with_reducible repeat (first | apply Kd.S_alloc | apply Kd.S_drewN | apply Kd.S_drew)); exact HO_8.out⟩, ⟨by (with_reducible repeat (first | apply Kd.R_alloc | apply Kd.R_drewN | apply Kd.R_drew)); exact HO_250001.out⟩, ⟨by (with_reducible repeat (first | apply Kd.R_alloc | apply Kd.R_drewN | apply Kd.R_drew)); exact HO258.out⟩, ⟨by (with_reducible repeat (first | refine blk_drewN ?_ _ | refine blk_drew ?_ | refine blk_alloc ?_ _)); exact BK249.out⟩, ⟨by repeat (first | (with_reducible first | exact HB.out | apply below_alloc | apply pw_below_drewN | apply below_drew1 | refine below_set ?_ GE249.out) | exact HB.out)⟩⟩
                             ·rw [if_neg c54] at H
                              exact absurd H (by simp)
                            ·rw [if_neg c53] at H
                             exact absurd H (by simp)
                           ·rw [if_neg c52] at H
                            exact absurd H (by simp)
                          ·rw [if_neg c51] at H
                           exact absurd H (by simp)
                         ·rw [if_neg c50] at H
                          exact absurd H (by simp)
                        ·rw [if_neg c49] at H
                         exact absurd H (by simp)
                       ·rw [if_neg c48] at H
                        exact absurd H (by simp)
                      ·rw [if_neg c47] at H
                       have c47b0 : decide (x15_4 ≤ x10_16) = false := decide_eq_false c47
                       clear c47
                       by_cases c63 : 0 ≤ x14_4
                       ·rw [if_pos c63] at H
                        have c63b0 := eq_true c63
                        have c63b1 : decide (0 ≤ x14_4) = true := decide_eq_true c63
                        clear c63
                        by_cases c64 : x14_4 ≤ ji34
                        ·rw [if_pos c64] at H
                         have c64b0 := eq_true c64
                         have c64b1 : decide (x14_4 ≤ ji34) = true := decide_eq_true c64
                         clear c64
                         by_cases c65 : ji34 ≤ (l0.length : Int)
                         ·rw [if_pos c65] at H
                          have c65b0 := eq_true c65
                          have c65b1 : decide (ji34 ≤ (l0.length : Int)) = true := decide_eq_true c65
                          (try have c65m := Aside0.mk (Nat.min_eq_left (Int.toNat_le.2 c65)))
                          clear c65
                          by_cases c66 : x250002_4.length + ((l0.take (ji34 : Int).toNat).drop (x14_4 : Int).toNat).length < 8796093022208
                          ·rw [if_pos c66] at H
                           have LMc66 := Aside0.mk c66
                           clear c66
                           obtain ⟨y262, hy262⟩ : ∃ y_ : List ByteArray, y_ = (x250002_4 ++ ((l0.take (ji34 : Int).toNat).drop (x14_4 : Int).toNat)) := ⟨_, rfl⟩
                           replace H : (if x8_2.length < 2513169434916 then (sidingref15_Widen.l0 k4 l0 l1 a2 (x8_2 ++ [(⟨ji31, y246, y262⟩ : S40)]) (wrap64 (x10_16 + 1))) else (none)) = some (r1, r2) := by first | (rw [hy262]; with_reducible exact H) | (have H2_ := (Option.bind_some _ _).symm.trans H; rw [hy262]; with_reducible exact H2_) | (have H2_ := (Option.bind_some _ _).symm.trans H; with_reducible exact H2_) | with_reducible exact H | (rw [hy262]; exact H) | exact H
                           have Ny262 := Aside0.mk hy262
                           clear hy262
                           by_cases c67 : x8_2.length < 2513169434916
                           ·rw [if_pos c67] at H
                            have LMc67 := Aside0.mk c67
                            clear c67
                            obtain ⟨y265, hy265⟩ : ∃ y_ : List (S40), y_ = (x8_2 ++ [(⟨ji31, y246, y262⟩ : S40)]) := ⟨_, rfl⟩
                            replace H : (sidingref15_Widen.l0 k4 l0 l1 a2 y265 (wrap64 (x10_16 + 1))) = some (r1, r2) := by first | (rw [hy265]; with_reducible exact H) | (have H2_ := (Option.bind_some _ _).symm.trans H; rw [hy265]; with_reducible exact H2_) | (have H2_ := (Option.bind_some _ _).symm.trans H; with_reducible exact H2_) | with_reducible exact H | (rw [hy265]; exact H) | exact H
                            have Ny265 := Aside0.mk hy265
                            clear hy265
                            have H' := Aside0.mk H
                            clear H
                            try go_wp2
                            have n0_ := Aside0.mk (Kd.S_drew HO_8.out)
                            have n1_ := Aside0.mk (Kd.R_drew HO_250001.out)
                            have n2_ := Aside0.mk (Kd.R_drew HO_250002.out)
                            have n3_ := Aside0.mk (blk_drew BK249.out)
                            have n4_ := Aside0.mk (below_drew1 HB.out)
                            clear HO_8
                            clear HO_250001
                            clear HO_250002
                            clear BK249
                            clear HB
                            have HO_8 := n0_
                            have HO_250001 := n1_
                            have HO_250002 := n2_
                            have BK249 := n3_
                            have HB := n4_
                            clear n0_ n1_ n2_ n3_ n4_
                            obtain ⟨i069, hi069, _, hsz69, _⟩ := info_parts info9
                            obtain ⟨A69, hcut69, hA69, hC69⟩ := print_mid_of (P := Try.prog) Value.string (⟨#[]⟩ : ByteArray) 22 9 .i64 .i64 Try.underlying22 hi069 hsz69 A0 c0 l0 x14_4 ji34 (of_decide_eq_true (by first | (with_reducible assumption) | assumption)) (by first | omega | exact of_decide_eq_true (by first | (with_reducible assumption) | assumption)) (of_decide_eq_true (by first | (with_reducible assumption) | assumption)) HC0.out
                            have HR261 := Aside0.mk (Kd.C_of_reads (h1 := fun _ => rfl) (hA69 _ (Kd.reads_of_C HR0.out)))
                            have HC261 := Aside0.mk hC69
                            clear hA69 hC69 hi069 hsz69
                            refine start_ (n := 9) (S := fun w' => w'.cell? ⟨gb249, 0, none⟩ = some (.int .i64 ji31) ∧ w'.cell? ⟨gb249, 1, none⟩ = some (.slice Ao44 y246.length co44) ∧ w'.cell? ⟨gb249, 2, none⟩ = some (u250002)) (ds := [8]) #[false, false, false, false, false, false, false, false, false] (by kernel_rfl) rfl rfl ⟨(blk_cell BK249.out 0).trans rfl, (blk_cell BK249.out 1).trans rfl, (blk_cell BK249.out 2).trans rfl⟩ (fun hHeld => ?_); refine with_tabW sidingref15_Widen.tab23 sidingref15_Widen.bits23 (fun HT_ HW_ => ?_)
                            generalize wr.drew = w68 at HO_8 HO_250001 HO_250002 BK249 HB HR261 hHeld ⊢
                            refine pu 0 147 #[true, false, false, false, false, false, false, false, false] rfl rfl (any_of HT_.out (by kernel_rfl)) ?_
                            refine pu 2 149 #[true, false, true, false, false, false, false, false, false] rfl rfl (any_of HT_.out (by kernel_rfl)) ?_
                            refine pu 3 150 #[true, false, true, true, false, false, false, false, false] rfl rfl (any_of HT_.out (by kernel_rfl)) ?_
                            refine pu 4 151 #[true, false, true, true, true, false, false, false, false] rfl rfl (any_of HT_.out (by kernel_rfl)) ?_
                            refine pu 5 152 #[true, false, true, true, true, true, false, false, false] rfl rfl (any_of HT_.out (by kernel_rfl)) ?_
                            refine take_ (i := 1) (N := some 148) (v := ?_) (a' := ?_) #[true, true, true, true, true, true, false, false, false] rfl rfl (take_ofW HT_.out HW_.out (by kernel_rfl)) (fun _ _ _ h => h) (Or.inl ⟨by rfl, ?_⟩) hHeld ?_ ?_; rotate_left; (focus rintro w' ⟨s0, s1, s2⟩; go_simp; with_reducible rfl); rotate_left; (focus go_simp; rfl)
                            refine one_ (i := 6) (N := some 153) #[true, true, true, true, true, true, true, false, false] rfl rfl (one_of HT_.out (by kernel_rfl)) (by decide) (fun K hK => ?_)
                            refine Kd.R_append_rows_step Kd.string (w0 := w) w.heap.size (by rfl) (.tmp 148) (.tmp 152) 22 9 (.string ⟨#[]⟩) 16 rfl Try.underlying22 info9 rfl (by decide) (by omega) u250002 x250002_4 ((l0.take (ji34 : Int).toNat).drop (x14_4 : Int).toNat) _ _ _ (fun k_ => some k_ ≠ (.slice Ao44 y246.length co44 : Value).ownBlock) (fun _ => False) rfl rfl ?aO ?aR (fun _ _ h => h) (fun _ h => h.elim) ?aF ?aB ?aS ?aL ?_
                            (case aR => first | (rw [← show ((l0.take (ji34 : Int).toNat).drop (x14_4 : Int).toNat).length = (ji34.toNat - x14_4.toNat) from (by rw [List.length_drop, List.length_take]; have h_ : (ji34 : Int) ≤ (l0.length : Int) := of_decide_eq_true (by first | (with_reducible assumption) | assumption); omega)]; repeat (first | exact (Kd.C_below HR261.out HB.out) | (with_reducible refine Kd.C_alloc ?_ _) | (with_reducible refine Kd.C_drewN ?_ _) | (with_reducible refine Kd.C_drew ?_))) | (repeat (first | exact (Kd.C_below HR261.out HB.out) | (with_reducible refine Kd.C_alloc ?_ _) | (with_reducible refine Kd.C_drewN ?_ _) | (with_reducible refine Kd.C_drew ?_))))
                            (case aB => exact (by repeat (first | (with_reducible first | exact HB.out | apply below_alloc | apply pw_below_drewN | apply below_drew1 | refine below_set ?_ GE249.out) | exact HB.out)))
                            (case aF => exact (fun k_ hk => Kd.fresh' (Kd.R_lt (by (with_reducible repeat (first | apply Kd.R_alloc | apply Kd.R_drewN | apply Kd.R_drew)); exact HO_250001.out)) k_ hk))
                            (case aO => exact (by (with_reducible repeat (first | apply Kd.R_alloc | apply Kd.R_drewN | apply Kd.R_drew)); exact HO_250002.out))
                            (case aS => exact (below_size (by repeat (first | (with_reducible first | exact HB.out | apply below_alloc | apply pw_below_drewN | apply below_drew1 | refine below_set ?_ GE249.out) | exact HB.out))))
                            (case aL => have := LMc66.out; have hlx_ := (show ((l0.take (ji34 : Int).toNat).drop (x14_4 : Int).toNat).length = (ji34.toNat - x14_4.toNat) from (by rw [List.length_drop, List.length_take]; have h_ : (ji34 : Int) ≤ (l0.length : Int) := of_decide_eq_true (by first | (with_reducible assumption) | assumption); omega)); omega)
                            intro v263 w70 ho hb hg hat
                            rw [← Ny262.out] at ho
                            have n0_ := Aside0.mk (Kd.S_after (ok := (fun k_ => some k_ ≠ (.slice Ao44 y246.length co44 : Value).ownBlock ∧ k_ ≠ gb249)) (by (with_reducible repeat (first | apply Kd.S_alloc | apply Kd.S_drewN | apply Kd.S_drew)); exact Kd.S_mono HO_8.out (fun _ hk => ⟨⟨hk.1, hk.2.2⟩, hk.2.1⟩)) hg hat)
                            have n1_ := Aside0.mk (Kd.R_after (ok := (fun _ => True)) (by (with_reducible repeat (first | apply Kd.R_alloc | apply Kd.R_drewN | apply Kd.R_drew)); exact Kd.R_mono HO_250001.out (fun _ hk => ⟨trivial, hk⟩)) hg hat)
                            have n2_ := Aside0.mk (blk_grown (g := gb249) (o := .cells #[.int .i64 ji31, .slice Ao44 y246.length co44, u250002] 40 (0, 0)) (by (with_reducible repeat (first | refine blk_drewN ?_ _ | refine blk_drew ?_ | refine blk_alloc ?_ _)); exact BK249.out) hg (Kd.R_ne HO_250002.out BK249.out (by decide)))
                            have n3_ := Aside0.mk (hb)
                            have n4_ := Aside0.mk (ho)
                            clear HO_8
                            clear HO_250001
                            clear BK249
                            clear HB
                            clear HO_250002
                            have HO_8 := n0_
                            have HO_250001 := n1_
                            have BK249 := n2_
                            have HB := n3_
                            have HO264 := n4_
                            clear n0_ n1_ n2_ n3_ n4_
                            clear ho hb hg hat
                            obtain ⟨Ao71, co71, eo71⟩ := Kd.R_slice HO264.out
                            (first | subst eo71 | (injection eo71 with f1_ f2_ f3_; have f4_ := f1_.symm; have f5_ := f3_.symm; clear f1_ f2_ f3_; subst f4_; subst f5_))
                            refine hK.out _ _ ⟨(blk_cell BK249.out 0).trans rfl, (blk_cell BK249.out 1).trans rfl, (blk_cell BK249.out 2).trans rfl⟩ (fun hHeld => ?_)
                            clear hK K
                            refine norm_ (a' := ?_) ?_ ?_
                            rotate_left
                            ·show Act.put _ (some 153) _ = _
                             simp only [Act.put, List.setIfInBounds_toArray, List.set_cons_zero, List.set_cons_succ, i64_w, i32_w]
                             rfl
                            refine pu 7 154 #[true, true, true, true, true, true, true, true, false] rfl rfl (any_of HT_.out (by kernel_rfl)) ?_
                            refine last_ (i := 8) (N := none) #[true, true, true, true, true, true, true, true, true] rfl rfl (one_of HT_.out (by kernel_rfl)) (by decide) (fun K hK => ?_)
                            have hs72 : w70.cell? ⟨gb249, 2, none⟩ = some (u250002) := (blk_cell BK249.out 2).trans rfl
                            have hfs72 := blk_frozen BK249.out 2
                            refine skip_ (w1 := ?_) (by rfl) rfl ?_ ?_
                            rotate_left
                            ·go_simp
                             rfl
                            refine hK.out _ _ ?_
                            clear hK K
                            refine done_ (done_of HT_.out (by kernel_rfl)) ?_
                            have n0_ : Aside0 (Kd.S k40 40 (w70.setCell ⟨gb249, 2, none⟩ (.slice Ao71 y262.length co71)) w.heap.size (fun k_ => some k_ ≠ (.slice Ao44 y246.length co44 : Value).ownBlock ∧ some k_ ≠ (.slice Ao71 y262.length co71 : Value).ownBlock ∧ k_ ≠ gb249) u8 x8_2) := ⟨by (with_reducible repeat (first | apply Kd.S_alloc | apply Kd.S_drewN | apply Kd.S_drew)); exact Kd.S_mono (Kd.S_far (p := ⟨gb249, 2, none⟩) (Kd.S_mono HO_8.out (fun k_ hk => (⟨hk, hk.1.2⟩ : _ ∧ k_ ≠ gb249))) (fun _ hk => hk.2) (.slice Ao71 y262.length co71)) (fun _ hk => ⟨hk.1.1.1, ⟨hk.1.2, hk.1.1.2⟩⟩)⟩
                            have n1_ : Aside0 (Kd.R Kd.string 9 (w70.setCell ⟨gb249, 2, none⟩ (.slice Ao71 y262.length co71)) w.heap.size (fun k_ => some k_ ≠ (.slice Ao71 y262.length co71 : Value).ownBlock) (.slice Ao44 y246.length co44) y246) := ⟨by (with_reducible repeat (first | apply Kd.R_alloc | apply Kd.R_drewN | apply Kd.R_drew)); exact Kd.R_mono (Kd.R_far (p := ⟨gb249, 2, none⟩) (Kd.R_types HO_250001.out BK249.out (by decide)) (fun _ hk => hk.2) (.slice Ao71 y262.length co71)) (fun _ hk => hk.1.2)⟩
                            have n2_ : Aside0 (Kd.R Kd.string 9 (w70.setCell ⟨gb249, 2, none⟩ (.slice Ao71 y262.length co71)) w.heap.size (fun k_ => some k_ ≠ (.slice Ao44 y246.length co44 : Value).ownBlock) (.slice Ao71 y262.length co71) y262) := ⟨by (with_reducible repeat (first | apply Kd.R_alloc | apply Kd.R_drewN | apply Kd.R_drew)); exact Kd.R_mono (Kd.R_far (p := ⟨gb249, 2, none⟩) (Kd.R_types HO264.out BK249.out (by decide)) (fun _ hk => hk.2) (.slice Ao71 y262.length co71)) (fun _ hk => hk.1)⟩
                            have n3_ : Aside0 ((w70.setCell ⟨gb249, 2, none⟩ (.slice Ao71 y262.length co71)).heap[gb249]? = some (.cells #[.int .i64 ji31, .slice Ao44 y246.length co44, .slice Ao71 y262.length co71] 40 (0, 0))) := ⟨by (with_reducible repeat (first | refine blk_drewN ?_ _ | refine blk_drew ?_ | refine blk_alloc ?_ _)); refine blk_put (cs := #[.int .i64 ji31, .slice Ao44 y246.length co44, u250002]) ?_ 2 _ rfl; (with_reducible repeat (first | refine blk_drewN ?_ _ | refine blk_drew ?_ | refine blk_alloc ?_ _)); exact BK249.out⟩
                            have n4_ : Aside0 (Below w.heap.size w (w70.setCell ⟨gb249, 2, none⟩ (.slice Ao71 y262.length co71))) := ⟨by repeat (first | (with_reducible first | exact HB.out | apply below_alloc | apply pw_below_drewN | apply below_drew1 | refine below_set ?_ GE249.out) | exact HB.out)⟩
                            (try clear HO_8)
                            (try clear HO_250001)
                            (try clear HO264)
                            (try clear BK249)
                            (try clear HB)
                            generalize (w70.setCell ⟨gb249, 2, none⟩ (.slice Ao71 y262.length co71)) = w73 at n0_ n1_ n2_ n3_ n4_ ⊢
                            have HO_8 := n0_
                            have HO_250001 := n1_
                            have HO264 := n2_
                            have BK249 := n3_
                            have HB := n4_
                            clear n0_ n1_ n2_ n3_ n4_
                            have hcz74_0 : w73.cell? ⟨gb249, 0, none⟩ = some (.int .i64 ji31) := (blk_cell BK249.out 0).trans rfl
                            have hcz74_1 : w73.cell? ⟨gb249, 1, none⟩ = some (.slice Ao44 y246.length co44) := (blk_cell BK249.out 1).trans rfl
                            have hcz74_2 : w73.cell? ⟨gb249, 2, none⟩ = some (.slice Ao71 y262.length co71) := (blk_cell BK249.out 2).trans rfl
                            have hfz74_0 := blk_frozen BK249.out 0
                            have hfz74_1 := blk_frozen BK249.out 1
                            have hfz74_2 := blk_frozen BK249.out 2
                            try go_wp2_with (first | ((with_reducible refine gate_builtin (b := .append) (xs := #[.tmp 155, .tmp 157]) rfl ?_); (try (refine gate_guard (by rfl) ?_; dsimp only)); at_builtin; refine Kd.S_append k40 (w0 := w) w.heap.size rfl (.tmp 155) (.tmp 157) 23 40 (.agg #[(.int .i64 0), (.slice none 0 0), (.slice none 0 0)]) 56 rfl Try.underlying23 info40 rfl (by decide) (by omega) u8 x8_2 (⟨ji31, y246, y262⟩ : S40) [.int .i64 ji31, .slice Ao44 y246.length co44, .slice Ao71 y262.length co71] (fun k_ => k_ ≠ gb249) (fun k_ => some k_ = (.slice Ao44 y246.length co44 : Value).ownBlock ∨ some k_ = (.slice Ao71 y262.length co71 : Value).ownBlock) rfl rfl ?aP (fun k_ hk_ => hk_.elim (fun h_ => ((Kd.R_mono (ok' := fun k_ => ((fun k_ => k_ ≠ gb249)) k_ ∧ some k_ ≠ (u8 : Value).ownBlock) (Kd.R_types (Kd.R_apart' (HO_250001.out) (Kd.S_typed HO_8.out) (by decide)) BK249.out (by decide)) (fun k_ hk => ⟨hk.2, hk.1.2⟩))).1 k_ h_.symm) (fun h_ => ((Kd.R_mono (ok' := fun k_ => ((fun k_ => k_ ≠ gb249)) k_ ∧ some k_ ≠ (u8 : Value).ownBlock) (Kd.R_types (Kd.R_apart' (HO264.out) (Kd.S_typed HO_8.out) (by decide)) BK249.out (by decide)) (fun k_ hk => ⟨hk.2, hk.1.2⟩))).1 k_ h_.symm)) ?aF ?aO ?aB ?aS ?aL ?_; (case aP => exact k40_mkM _ _ _ (⟨ji31, y246, y262⟩ : S40) (Kd.R_mono (Kd.R_tight rfl (Kd.R_mono (ok' := fun k_ => ((fun k_ => k_ ≠ gb249)) k_ ∧ some k_ ≠ (u8 : Value).ownBlock) (Kd.R_types (Kd.R_apart' (HO_250001.out) (Kd.S_typed HO_8.out) (by decide)) BK249.out (by decide)) (fun k_ hk => ⟨hk.2, hk.1.2⟩))) (fun _ h_ => Or.inl h_)) (Kd.R_mono (Kd.R_tight rfl (Kd.R_mono (ok' := fun k_ => ((fun k_ => k_ ≠ gb249)) k_ ∧ some k_ ≠ (u8 : Value).ownBlock) (Kd.R_types (Kd.R_apart' (HO264.out) (Kd.S_typed HO_8.out) (by decide)) BK249.out (by decide)) (fun k_ hk => ⟨hk.2, hk.1.2⟩))) (fun _ h_ => Or.inr (h_)))); (case aB => exact (by repeat (first | (with_reducible first | exact HB.out | apply below_alloc | apply pw_below_drewN | apply below_drew1 | refine below_set ?_ GE249.out) | exact HB.out))); (case aF => exact (fun k_ hk => Kd.freshB (g := gb249) (o := .cells #[.int .i64 ji31, .slice Ao44 y246.length co44, .slice Ao71 y262.length co71] 40 (0, 0)) (by (with_reducible repeat (first | refine blk_drewN ?_ _ | refine blk_drew ?_ | refine blk_alloc ?_ _)); exact BK249.out) k_ hk)); (case aO => exact (by (with_reducible repeat (first | apply Kd.S_alloc | apply Kd.S_drewN | apply Kd.S_drew)); exact Kd.S_mono HO_8.out (fun k_ hk => ⟨hk.2.2, fun e_ => e_.elim (fun h_ => hk.1 h_) (fun h_ => hk.2.1 h_)⟩))); (case aS => exact (below_size (by repeat (first | (with_reducible first | exact HB.out | apply below_alloc | apply pw_below_drewN | apply below_drew1 | refine below_set ?_ GE249.out) | exact HB.out)))); (case aL => have := LMc67.out; omega); intro v266 w75 ho hb hg hat; rw [← Ny265.out] at ho; have n0_ := Aside0.mk (blk_grown (g := gb249) (o := .cells #[.int .i64 ji31, .slice Ao44 y246.length co44, .slice Ao71 y262.length co71] 40 (0, 0)) (by (with_reducible repeat (first | refine blk_drewN ?_ _ | refine blk_drew ?_ | refine blk_alloc ?_ _)); exact BK249.out) hg (Kd.S_away HO_8.out (fun _ hk => hk.2.2))); have n1_ := Aside0.mk (hb); have n2_ := Aside0.mk (ho); clear BK249; clear HB; clear HO_8; clear HO264; clear HO_250001; have BK249 := n0_; have HB := n1_; have HO267 := n2_; clear n0_ n1_ n2_; clear ho hb hg hat))
                            go_roundg k4
                            case measure => have := HJ7.out; have := HK2.out; have := HJ16.out; have := HK4.out; omega
                            case rel => exact ⟨(y265), (wrap64 (x10_16 + 1)), (by first | rfl | (simp; done) | (simp [*]; done)), H', ⟨by have := HJ7.out; have := HK2.out; have := HJ16.out; have := HK4.out; omega⟩, ⟨by (with_reducible repeat (first | apply Kd.S_alloc | apply Kd.S_drewN | apply Kd.S_drew)); exact Kd.S_mono HO267.out (fun _ hk => trivial)⟩, ⟨by repeat (first | (with_reducible first | exact HB.out | apply below_alloc | apply pw_below_drewN | apply below_drew1 | refine below_set ?_ GE249.out) | exact HB.out)⟩⟩
                           ·rw [if_neg c67] at H
                            exact absurd H (by simp)
                          ·rw [if_neg c66] at H
                           exact absurd H (by simp)
                         ·rw [if_neg c65] at H
                          exact absurd H (by simp)
                        ·rw [if_neg c64] at H
                         exact absurd H (by simp)
                       ·rw [if_neg c63] at H
                        exact absurd H (by simp)
                   ·rw [if_neg c38] at H
                    exact absurd H (by simp)
                  ·rw [if_neg c37] at H
                   exact absurd H (by simp)
                 ·rw [if_neg c36] at H
                  exact absurd H (by simp)
                ·rw [if_neg c35] at H
                 exact absurd H (by simp)
               ·rw [if_neg c33] at H
                exact absurd H (by simp)
              ·rw [if_neg c32] at H
               exact absurd H (by simp)
             ·rw [if_neg c30] at H
              exact absurd H (by simp)
            ·rw [if_neg c29] at H
             exact absurd H (by simp)
         ·rw [if_neg c16] at H
          have c16b0 : decide (x9_2 < (l1.length : Int)) = false := decide_eq_false c16
          clear c16
          simp only [Option.some.injEq, Prod.mk.injEq] at H
          obtain ⟨rfl, rfl⟩ := H
          go_wp2
          go_ret2
          exact ⟨_, by first | rfl | (simp [errW_none, errW_some] <;> rfl) | (simp [*, errW_none, errW_some] <;> rfl), by (with_reducible repeat (first | apply Kd.S_alloc | apply Kd.S_drewN | apply Kd.S_drew)); exact HO_8.out, by repeat (first | (with_reducible first | exact HB.out | apply below_alloc | apply pw_below_drewN | apply below_drew1) | exact HB.out)⟩
      ·replace c14 := Bool.eq_false_iff.mpr c14
       subst c14
       have H1 : (some (([] : List (S40)), 6)) = some (r1, r2) := by rw [if_neg (show ¬ (false = true) by decide)] at H; exact H
       clear H
       have H := H1
       clear H1
       simp only [Option.some.injEq, Prod.mk.injEq] at H
       obtain ⟨rfl, rfl⟩ := H
       go_wp2_with (first | ((with_reducible refine gate_callee (f := 22) rfl ?_); refine goesL_ (some 34) rfl rfl Try.func22 (by kernel_rfl) rfl #[.slice A0 l0.length c0, .slice A1 l1.length c1] rfl (by (try simp only [List.map_toArray, List.map_cons, List.map_nil]); first | done | rfl | (simp only [List.length_drop, List.length_take]; rfl)) ?_; (with_reducible refine (sidingref15_Fits.calls kj7 _ _ l0 _ _ l1 false _ ?side1 ?side2 ?side3 ?side4 A13.out).mono ?_); (case side1 => repeat (first | exact (Kd.C_below HR0.out HB.out) | (with_reducible refine Kd.C_alloc ?_ _) | (with_reducible refine Kd.C_drewN ?_ _) | (with_reducible refine Kd.C_drew ?_))); (case side2 => exact HC0.out); (case side3 => repeat (first | exact (Kd.C_below HR1.out HB.out) | (with_reducible refine Kd.C_alloc ?_ _) | (with_reducible refine Kd.C_drewN ?_ _) | (with_reducible refine Kd.C_drew ?_))); (case side4 => exact HC1.out); rintro e w76 ⟨rfl, hb⟩; refine ⟨_, rfl, ?_⟩; have n0_ := Aside0.mk (below_step (by repeat (first | (with_reducible first | exact HB.out | apply below_alloc | apply pw_below_drewN | apply below_drew1) | exact HB.out)) hb); clear HB; have HB := n0_; clear n0_; (try clear hb); (try clear hb2); (try clear hk); (try clear hi)))
       go_ret2
       exact ⟨_, by first | rfl | (simp [errW_none, errW_some] <;> rfl) | (simp [*, errW_none, errW_some] <;> rfl), by first | exact Kd.S_nil _ _ _ _ _ | exact Kd.N_nil _ _ _ _ _ | exact Kd.V_nil _ _ _ _ _ | exact Kd.Q_nil _ _ _ _ _ | exact Kd.R_nil _ _ _ _ _, by repeat (first | (with_reducible first | exact HB.out | apply below_alloc | apply pw_below_drewN | apply below_drew1) | exact HB.out)⟩
  ·rw [if_neg c7] at H
   have c7b0 : (t233 == 0) = false := beq_eq_false_iff_ne.mpr c7
   have c7b1 : (t233 != 0) = true := bne_iff_ne.mpr c7
   replace H := Option.bind_eq_some_iff.mp H
   obtain ⟨t234, A770, H⟩ := H
   replace H : (some (([] : List (S40)), t234)) = some (r1, r2) := H
   have A77 := Aside0.mk A770
   (try have sameA77 := (Option.some.inj (A6.out.symm.trans A77.out) : t233 = t234))
   clear A770
   simp only [Option.some.injEq, Prod.mk.injEq] at H
   obtain ⟨rfl, rfl⟩ := H
   go_enter Try.func10, Try.ntmps10
   go_wp2_with (first | ((with_reducible refine gate_callee (f := 21) rfl ?_); refine goesL_ (some 17) rfl rfl Try.func21 (by kernel_rfl) rfl #[.slice A0 l0.length c0] rfl (by (try simp only [List.map_toArray, List.map_cons, List.map_nil]); first | done | rfl | (simp only [List.length_drop, List.length_take]; rfl)) ?_; (with_reducible refine (sidingref13_Lines.calls k _ _ l0 t231 _ ?side1 ?side2 A4.out).mono ?_); (case side1 => repeat (first | exact HR0.out | (with_reducible refine Kd.C_alloc ?_ _) | (with_reducible refine Kd.C_drewN ?_ _) | (with_reducible refine Kd.C_drew ?_))); (case side2 => exact HC0.out); rintro e w78 ⟨rfl, hb⟩; refine ⟨_, rfl, ?_⟩; have n0_ := Aside0.mk (below_step (by repeat (first | (with_reducible first | exact HB.out | apply below_alloc | apply pw_below_drewN | apply below_drew1) | exact HB.out)) hb); clear HB; have HB := n0_; clear n0_; (try clear hb); (try clear hb2); (try clear hk); (try clear hi)) | ((with_reducible refine gate_callee (f := 12) rfl ?_); refine goesL_ (some 22) rfl rfl Try.func12 (by kernel_rfl) rfl #[.slice A1 l1.length c1] rfl (by (try simp only [List.map_toArray, List.map_cons, List.map_nil]); first | done | rfl | (simp only [List.length_drop, List.length_take]; rfl)) ?_; (with_reducible refine (sidingref15_Check.calls k _ _ l1 t233 _ ?side1 ?side2 A6.out).mono ?_); (case side1 => repeat (first | exact (Kd.C_below HR1.out HB.out) | (with_reducible refine Kd.C_alloc ?_ _) | (with_reducible refine Kd.C_drewN ?_ _) | (with_reducible refine Kd.C_drew ?_))); (case side2 => exact HC1.out); rintro e w79 ⟨rfl, hb⟩; refine ⟨_, rfl, ?_⟩; have n0_ := Aside0.mk (below_step (by repeat (first | (with_reducible first | exact HB.out | apply below_alloc | apply pw_below_drewN | apply below_drew1) | exact HB.out)) hb); clear HB; have HB := n0_; clear n0_; (try clear hb); (try clear hb2); (try clear hk); (try clear hi)) | ((with_reducible refine gate_callee (f := 12) rfl ?_); refine goesL_ (some 25) rfl rfl Try.func12 (by kernel_rfl) rfl #[.slice A1 l1.length c1] rfl (by (try simp only [List.map_toArray, List.map_cons, List.map_nil]); first | done | rfl | (simp only [List.length_drop, List.length_take]; rfl)) ?_; (with_reducible refine (sidingref15_Check.calls k _ _ l1 t234 _ ?side1 ?side2 A77.out).mono ?_); (case side1 => repeat (first | exact (Kd.C_below HR1.out HB.out) | (with_reducible refine Kd.C_alloc ?_ _) | (with_reducible refine Kd.C_drewN ?_ _) | (with_reducible refine Kd.C_drew ?_))); (case side2 => exact HC1.out); rintro e w80 ⟨rfl, hb⟩; refine ⟨_, rfl, ?_⟩; have n0_ := Aside0.mk (below_step (by repeat (first | (with_reducible first | exact HB.out | apply below_alloc | apply pw_below_drewN | apply below_drew1) | exact HB.out)) hb); clear HB; have HB := n0_; clear n0_; (try clear hb); (try clear hb2); (try clear hk); (try clear hi)))
   go_ret2
   (try rw [sameA77])
   exact ⟨_, by first | rfl | (simp [errW_none, errW_some] <;> rfl) | (simp [*, errW_none, errW_some] <;> rfl), by first | exact Kd.S_nil _ _ _ _ _ | exact Kd.N_nil _ _ _ _ _ | exact Kd.V_nil _ _ _ _ _ | exact Kd.Q_nil _ _ _ _ _ | exact Kd.R_nil _ _ _ _ _, by repeat (first | (with_reducible first | exact HB.out | apply below_alloc | apply pw_below_drewN | apply below_drew1) | exact HB.out)⟩
 ·rw [if_neg c5] at H
  have c5b0 : (t231 == 0) = false := beq_eq_false_iff_ne.mpr c5
  have c5b1 : (t231 != 0) = true := bne_iff_ne.mpr c5
  replace H := Option.bind_eq_some_iff.mp H
  obtain ⟨t232, A810, H⟩ := H
  replace H : (some (([] : List (S40)), t232)) = some (r1, r2) := H
  have A81 := Aside0.mk A810
  (try have sameA81 := (Option.some.inj (A4.out.symm.trans A81.out) : t231 = t232))
  clear A810
  simp only [Option.some.injEq, Prod.mk.injEq] at H
  obtain ⟨rfl, rfl⟩ := H
  go_enter Try.func10, Try.ntmps10
  go_wp2_with (first | ((with_reducible refine gate_callee (f := 21) rfl ?_); refine goesL_ (some 17) rfl rfl Try.func21 (by kernel_rfl) rfl #[.slice A0 l0.length c0] rfl (by (try simp only [List.map_toArray, List.map_cons, List.map_nil]); first | done | rfl | (simp only [List.length_drop, List.length_take]; rfl)) ?_; (with_reducible refine (sidingref13_Lines.calls k _ _ l0 t231 _ ?side1 ?side2 A4.out).mono ?_); (case side1 => repeat (first | exact HR0.out | (with_reducible refine Kd.C_alloc ?_ _) | (with_reducible refine Kd.C_drewN ?_ _) | (with_reducible refine Kd.C_drew ?_))); (case side2 => exact HC0.out); rintro e w82 ⟨rfl, hb⟩; refine ⟨_, rfl, ?_⟩; have n0_ := Aside0.mk (below_step (by repeat (first | (with_reducible first | exact HB.out | apply below_alloc | apply pw_below_drewN | apply below_drew1) | exact HB.out)) hb); clear HB; have HB := n0_; clear n0_; (try clear hb); (try clear hb2); (try clear hk); (try clear hi)) | ((with_reducible refine gate_callee (f := 21) rfl ?_); refine goesL_ (some 20) rfl rfl Try.func21 (by kernel_rfl) rfl #[.slice A0 l0.length c0] rfl (by (try simp only [List.map_toArray, List.map_cons, List.map_nil]); first | done | rfl | (simp only [List.length_drop, List.length_take]; rfl)) ?_; (with_reducible refine (sidingref13_Lines.calls k _ _ l0 t232 _ ?side1 ?side2 A81.out).mono ?_); (case side1 => repeat (first | exact (Kd.C_below HR0.out HB.out) | (with_reducible refine Kd.C_alloc ?_ _) | (with_reducible refine Kd.C_drewN ?_ _) | (with_reducible refine Kd.C_drew ?_))); (case side2 => exact HC0.out); rintro e w83 ⟨rfl, hb⟩; refine ⟨_, rfl, ?_⟩; have n0_ := Aside0.mk (below_step (by repeat (first | (with_reducible first | exact HB.out | apply below_alloc | apply pw_below_drewN | apply below_drew1) | exact HB.out)) hb); clear HB; have HB := n0_; clear n0_; (try clear hb); (try clear hb2); (try clear hk); (try clear hi)))
  go_ret2
  (try rw [sameA81])
  exact ⟨_, by first | rfl | (simp [errW_none, errW_some] <;> rfl) | (simp [*, errW_none, errW_some] <;> rfl), by first | exact Kd.S_nil _ _ _ _ _ | exact Kd.N_nil _ _ _ _ _ | exact Kd.V_nil _ _ _ _ _ | exact Kd.Q_nil _ _ _ _ _ | exact Kd.R_nil _ _ _ _ _, by repeat (first | (with_reducible first | exact HB.out | apply below_alloc | apply pw_below_drewN | apply below_drew1) | exact HB.out)⟩
end Go.Proofs.Ytmgbbmjfjnhmiaa.Pr
