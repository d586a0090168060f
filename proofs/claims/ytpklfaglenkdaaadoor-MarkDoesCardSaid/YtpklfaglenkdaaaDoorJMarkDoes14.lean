/- Part 14 of the proof of MarkDoes: texts put together. -/
import Derived.Test.YtpklfaglenkdaaaDoorJMarkDoes4
import Derived.Test.YtpklfaglenkdaaaDoorJMarkDoes5
namespace Go.Proofs.YtpklfaglenkdaaaDoor.Pr
open Go.RowKit Go.Proofs.YtpklfaglenkdaaaDoorW.PrintWords Go.Proofs.YtpklfaglenkdaaaDoorW.PrintLast Go.Proofs.YtpklfaglenkdaaaDoorW.PrintMore
attribute [local go_sem] i64_w i32_w max2_int min2_int max_two min_two max_three min_three max_four min_four   
set_option linter.unusedVariables false
set_option linter.unusedSimpArgs false
def sidingref18_Same.l0 : Nat → List (S43) → List (S43) → Int → Option (Bool)
  | 0, _, _, _ => none
  | k + 1, x0, x1, x5 => if x5 < (x0.length : Int) then (if 0 ≤ x5 then (if x5 < (x1.length : Int) then (if ((rd_T43 x0 x5).f0) = ((rd_T43 x1 x5).f0) then ((sidingref13_Same.f k ((rd_T43 x0 x5).f1) ((rd_T43 x1 x5).f1)).bind fun t298 => (if t298 = true then ((sidingref13_Same.f k ((rd_T43 x0 x5).f2) ((rd_T43 x1 x5).f2)).bind fun t301 => (if t301 = true then ((sidingref13_Same.f k ((rd_T43 x0 x5).f3) ((rd_T43 x1 x5).f3)).bind fun t304 => (if t304 = true then (sidingref18_Same.l0 k x0 x1 (wrap64 (x5 + 1))) else (some false))) else (some false))) else (some false))) else (some false)) else (none)) else (none)) else (some true)
def sidingref18_Same.f (k : Nat) (l0 : List (S43)) (l1 : List (S43)) : Option (Bool) := if (l0.length : Int) = (l1.length : Int) then (sidingref18_Same.l0 k l0 l1 0) else (some false)
def sidingref18_Same.T6 : Bool × List (List Nat × List Nat) := (true, [([], []), ([], []), ([0, 1], [0, 1]), ([2], [2]), ([3], [3]), ([], []), ([], []), ([5, 6], [5, 6]), ([7], [7]), ([8], [8]), ([4, 9], [4, 9]), ([10], [10]), ([11], [11]), ([11], [11]), ([12, 13, 11], [11, 12, 13]), ([14, 11], [11, 14]), ([15, 11], [11, 15]), ([11], [11]), ([11], [11]), ([17, 18, 11], [11, 17, 18]), ([19, 11], [11, 19]), ([20, 11], [11, 20]), ([16, 21, 11, 11], [11, 16, 21]), ([22, 11], [11, 22]), ([11, 23], [11, 23]), ([24, 22], [24]), ([25], [25]), ([25], [25]), ([26, 27, 25], [25, 26, 27]), ([28, 25], [25, 28]), ([29, 25], [25, 29]), ([25], [25]), ([25], [25]), ([31, 32, 25], [25, 31, 32]), ([33, 25], [25, 33]), ([34, 25], [25, 34]), ([30, 35, 25, 25], [25, 30, 35]), ([36, 25], [25, 36]), ([25, 37], [25, 37]), ([38, 36], [38]), ([39], [39]), ([39], [39]), ([40, 41, 39], [39, 40, 41]), ([42, 39], [39, 42]), ([43, 39], [39, 43]), ([39], [39]), ([39], [39]), ([45, 46, 39], [39, 45, 46]), ([47, 39], [39, 47]), ([48, 39], [39, 48]), ([44, 49, 39, 39], [39, 44, 49]), ([50, 39], [39, 50]), ([39, 51], [39, 51])])
def sidingref18_Same.B6 : List Nat := [0, 0, 3, 7, 15, 0, 0, 96, 224, 480, 1023, 2047, 4095, 4095, 16383, 32767, 65535, 4095, 4095, 397311, 921599, 1970175, 4194303, 8388607, 16777215, 33554431, 67108863, 67108863, 268435455, 536870911, 1073741823, 67108863, 67108863, 6509559807, 15099494399, 32279363583, 68719476735, 137438953471, 274877906943, 549755813887, 1099511627775, 1099511627775, 4398046511103, 8796093022207, 17592186044415, 1099511627775, 1099511627775, 106652627894271, 247390116249599, 528865092960255, 1125899906842623, 2251799813685247, 4503599627370495]
theorem sidingref18_Same.tab6 : rtab .any (opsOf Tryd.f17 6) = sidingref18_Same.T6 := by kernel_rfl
theorem sidingref18_Same.bits6 : waitsOk sidingref18_Same.T6.2 sidingref18_Same.B6 = true := by kernel_rfl
abbrev sidingref18_Same.Bz0 : Array Bool := #[false, false, false, false, false, false, false, false, false, false, false, false, false, false, false, false, false, false, false, false, false, false, false, false, false, false, false, false, false, false, false, false, false, false, false, false, false, false, false, false, false, false, false, false, false, false, false, false, false, false, false, false, false]
abbrev sidingref18_Same.Bz1 : Array Bool := #[true, false, false, false, false, false, false, false, false, false, false, false, false, false, false, false, false, false, false, false, false, false, false, false, false, false, false, false, false, false, false, false, false, false, false, false, false, false, false, false, false, false, false, false, false, false, false, false, false, false, false, false, false]
abbrev sidingref18_Same.Bz2 : Array Bool := #[true, true, false, false, false, false, false, false, false, false, false, false, false, false, false, false, false, false, false, false, false, false, false, false, false, false, false, false, false, false, false, false, false, false, false, false, false, false, false, false, false, false, false, false, false, false, false, false, false, false, false, false, false]
abbrev sidingref18_Same.Bz3 : Array Bool := #[true, true, true, false, false, false, false, false, false, false, false, false, false, false, false, false, false, false, false, false, false, false, false, false, false, false, false, false, false, false, false, false, false, false, false, false, false, false, false, false, false, false, false, false, false, false, false, false, false, false, false, false, false]
abbrev sidingref18_Same.Bz4 : Array Bool := #[true, true, true, true, false, false, false, false, false, false, false, false, false, false, false, false, false, false, false, false, false, false, false, false, false, false, false, false, false, false, false, false, false, false, false, false, false, false, false, false, false, false, false, false, false, false, false, false, false, false, false, false, false]
abbrev sidingref18_Same.Bz5 : Array Bool := #[true, true, true, true, false, true, false, false, false, false, false, false, false, false, false, false, false, false, false, false, false, false, false, false, false, false, false, false, false, false, false, false, false, false, false, false, false, false, false, false, false, false, false, false, false, false, false, false, false, false, false, false, false]
abbrev sidingref18_Same.Bz6 : Array Bool := #[true, true, true, true, false, true, true, false, false, false, false, false, false, false, false, false, false, false, false, false, false, false, false, false, false, false, false, false, false, false, false, false, false, false, false, false, false, false, false, false, false, false, false, false, false, false, false, false, false, false, false, false, false]
abbrev sidingref18_Same.Bz7 : Array Bool := #[true, true, true, true, false, true, true, true, false, false, false, false, false, false, false, false, false, false, false, false, false, false, false, false, false, false, false, false, false, false, false, false, false, false, false, false, false, false, false, false, false, false, false, false, false, false, false, false, false, false, false, false, false]
abbrev sidingref18_Same.Bz8 : Array Bool := #[true, true, true, true, false, true, true, true, true, false, false, false, false, false, false, false, false, false, false, false, false, false, false, false, false, false, false, false, false, false, false, false, false, false, false, false, false, false, false, false, false, false, false, false, false, false, false, false, false, false, false, false, false]
abbrev sidingref18_Same.Bz9 : Array Bool := #[true, true, true, true, true, true, true, true, true, false, false, false, false, false, false, false, false, false, false, false, false, false, false, false, false, false, false, false, false, false, false, false, false, false, false, false, false, false, false, false, false, false, false, false, false, false, false, false, false, false, false, false, false]
abbrev sidingref18_Same.Bz10 : Array Bool := #[true, true, true, true, true, true, true, true, true, true, false, false, false, false, false, false, false, false, false, false, false, false, false, false, false, false, false, false, false, false, false, false, false, false, false, false, false, false, false, false, false, false, false, false, false, false, false, false, false, false, false, false, false]
abbrev sidingref18_Same.Bz11 : Array Bool := #[true, true, true, true, true, true, true, true, true, true, true, false, false, false, false, false, false, false, false, false, false, false, false, false, false, false, false, false, false, false, false, false, false, false, false, false, false, false, false, false, false, false, false, false, false, false, false, false, false, false, false, false, false]
abbrev sidingref18_Same.Bz12 : Array Bool := #[true, true, true, true, true, true, true, true, true, true, true, true, false, false, false, false, false, false, false, false, false, false, false, false, false, false, false, false, false, false, false, false, false, false, false, false, false, false, false, false, false, false, false, false, false, false, false, false, false, false, false, false, false]
abbrev sidingref18_Same.Bz13 : Array Bool := #[true, true, true, true, true, true, true, true, true, true, true, true, true, false, false, false, false, false, false, false, false, false, false, false, false, false, false, false, false, false, false, false, false, false, false, false, false, false, false, false, false, false, false, false, false, false, false, false, false, false, false, false, false]
abbrev sidingref18_Same.Bz14 : Array Bool := #[true, true, true, true, true, true, true, true, true, true, true, true, true, true, false, false, false, false, false, false, false, false, false, false, false, false, false, false, false, false, false, false, false, false, false, false, false, false, false, false, false, false, false, false, false, false, false, false, false, false, false, false, false]
abbrev sidingref18_Same.Bz15 : Array Bool := #[true, true, true, true, true, true, true, true, true, true, true, true, true, true, true, false, false, false, false, false, false, false, false, false, false, false, false, false, false, false, false, false, false, false, false, false, false, false, false, false, false, false, false, false, false, false, false, false, false, false, false, false, false]
abbrev sidingref18_Same.Bz16 : Array Bool := #[true, true, true, true, true, true, true, true, true, true, true, true, true, true, true, true, false, false, false, false, false, false, false, false, false, false, false, false, false, false, false, false, false, false, false, false, false, false, false, false, false, false, false, false, false, false, false, false, false, false, false, false, false]
abbrev sidingref18_Same.Bz17 : Array Bool := #[true, true, true, true, true, true, true, true, true, true, true, true, true, true, true, true, false, true, false, false, false, false, false, false, false, false, false, false, false, false, false, false, false, false, false, false, false, false, false, false, false, false, false, false, false, false, false, false, false, false, false, false, false]
abbrev sidingref18_Same.Bz18 : Array Bool := #[true, true, true, true, true, true, true, true, true, true, true, true, true, true, true, true, false, true, true, false, false, false, false, false, false, false, false, false, false, false, false, false, false, false, false, false, false, false, false, false, false, false, false, false, false, false, false, false, false, false, false, false, false]
abbrev sidingref18_Same.Bz19 : Array Bool := #[true, true, true, true, true, true, true, true, true, true, true, true, true, true, true, true, false, true, true, true, false, false, false, false, false, false, false, false, false, false, false, false, false, false, false, false, false, false, false, false, false, false, false, false, false, false, false, false, false, false, false, false, false]
abbrev sidingref18_Same.Bz20 : Array Bool := #[true, true, true, true, true, true, true, true, true, true, true, true, true, true, true, true, false, true, true, true, true, false, false, false, false, false, false, false, false, false, false, false, false, false, false, false, false, false, false, false, false, false, false, false, false, false, false, false, false, false, false, false, false]
abbrev sidingref18_Same.Bz21 : Array Bool := #[true, true, true, true, true, true, true, true, true, true, true, true, true, true, true, true, true, true, true, true, true, false, false, false, false, false, false, false, false, false, false, false, false, false, false, false, false, false, false, false, false, false, false, false, false, false, false, false, false, false, false, false, false]
abbrev sidingref18_Same.Bz22 : Array Bool := #[true, true, true, true, true, true, true, true, true, true, true, true, true, true, true, true, true, true, true, true, true, true, false, false, false, false, false, false, false, false, false, false, false, false, false, false, false, false, false, false, false, false, false, false, false, false, false, false, false, false, false, false, false]
abbrev sidingref18_Same.Bz23 : Array Bool := #[true, true, true, true, true, true, true, true, true, true, true, true, true, true, true, true, true, true, true, true, true, true, true, false, false, false, false, false, false, false, false, false, false, false, false, false, false, false, false, false, false, false, false, false, false, false, false, false, false, false, false, false, false]
abbrev sidingref18_Same.Bz24 : Array Bool := #[true, true, true, true, true, true, true, true, true, true, true, true, true, true, true, true, true, true, true, true, true, true, true, true, false, false, false, false, false, false, false, false, false, false, false, false, false, false, false, false, false, false, false, false, false, false, false, false, false, false, false, false, false]
abbrev sidingref18_Same.Bz25 : Array Bool := #[true, true, true, true, true, true, true, true, true, true, true, true, true, true, true, true, true, true, true, true, true, true, true, true, true, false, false, false, false, false, false, false, false, false, false, false, false, false, false, false, false, false, false, false, false, false, false, false, false, false, false, false, false]
abbrev sidingref18_Same.Bz26 : Array Bool := #[true, true, true, true, true, true, true, true, true, true, true, true, true, true, true, true, true, true, true, true, true, true, true, true, true, true, false, false, false, false, false, false, false, false, false, false, false, false, false, false, false, false, false, false, false, false, false, false, false, false, false, false, false]
abbrev sidingref18_Same.Bz27 : Array Bool := #[true, true, true, true, true, true, true, true, true, true, true, true, true, true, true, true, true, true, true, true, true, true, true, true, true, true, true, false, false, false, false, false, false, false, false, false, false, false, false, false, false, false, false, false, false, false, false, false, false, false, false, false, false]
abbrev sidingref18_Same.Bz28 : Array Bool := #[true, true, true, true, true, true, true, true, true, true, true, true, true, true, true, true, true, true, true, true, true, true, true, true, true, true, true, true, false, false, false, false, false, false, false, false, false, false, false, false, false, false, false, false, false, false, false, false, false, false, false, false, false]
abbrev sidingref18_Same.Bz29 : Array Bool := #[true, true, true, true, true, true, true, true, true, true, true, true, true, true, true, true, true, true, true, true, true, true, true, true, true, true, true, true, true, false, false, false, false, false, false, false, false, false, false, false, false, false, false, false, false, false, false, false, false, false, false, false, false]
abbrev sidingref18_Same.Bz30 : Array Bool := #[true, true, true, true, true, true, true, true, true, true, true, true, true, true, true, true, true, true, true, true, true, true, true, true, true, true, true, true, true, true, false, false, false, false, false, false, false, false, false, false, false, false, false, false, false, false, false, false, false, false, false, false, false]
abbrev sidingref18_Same.Bz31 : Array Bool := #[true, true, true, true, true, true, true, true, true, true, true, true, true, true, true, true, true, true, true, true, true, true, true, true, true, true, true, true, true, true, false, true, false, false, false, false, false, false, false, false, false, false, false, false, false, false, false, false, false, false, false, false, false]
abbrev sidingref18_Same.Bz32 : Array Bool := #[true, true, true, true, true, true, true, true, true, true, true, true, true, true, true, true, true, true, true, true, true, true, true, true, true, true, true, true, true, true, false, true, true, false, false, false, false, false, false, false, false, false, false, false, false, false, false, false, false, false, false, false, false]
abbrev sidingref18_Same.Bz33 : Array Bool := #[true, true, true, true, true, true, true, true, true, true, true, true, true, true, true, true, true, true, true, true, true, true, true, true, true, true, true, true, true, true, false, true, true, true, false, false, false, false, false, false, false, false, false, false, false, false, false, false, false, false, false, false, false]
abbrev sidingref18_Same.Bz34 : Array Bool := #[true, true, true, true, true, true, true, true, true, true, true, true, true, true, true, true, true, true, true, true, true, true, true, true, true, true, true, true, true, true, false, true, true, true, true, false, false, false, false, false, false, false, false, false, false, false, false, false, false, false, false, false, false]
abbrev sidingref18_Same.Bz35 : Array Bool := #[true, true, true, true, true, true, true, true, true, true, true, true, true, true, true, true, true, true, true, true, true, true, true, true, true, true, true, true, true, true, true, true, true, true, true, false, false, false, false, false, false, false, false, false, false, false, false, false, false, false, false, false, false]
abbrev sidingref18_Same.Bz36 : Array Bool := #[true, true, true, true, true, true, true, true, true, true, true, true, true, true, true, true, true, true, true, true, true, true, true, true, true, true, true, true, true, true, true, true, true, true, true, true, false, false, false, false, false, false, false, false, false, false, false, false, false, false, false, false, false]
abbrev sidingref18_Same.Bz37 : Array Bool := #[true, true, true, true, true, true, true, true, true, true, true, true, true, true, true, true, true, true, true, true, true, true, true, true, true, true, true, true, true, true, true, true, true, true, true, true, true, false, false, false, false, false, false, false, false, false, false, false, false, false, false, false, false]
abbrev sidingref18_Same.Bz38 : Array Bool := #[true, true, true, true, true, true, true, true, true, true, true, true, true, true, true, true, true, true, true, true, true, true, true, true, true, true, true, true, true, true, true, true, true, true, true, true, true, true, false, false, false, false, false, false, false, false, false, false, false, false, false, false, false]
abbrev sidingref18_Same.Bz39 : Array Bool := #[true, true, true, true, true, true, true, true, true, true, true, true, true, true, true, true, true, true, true, true, true, true, true, true, true, true, true, true, true, true, true, true, true, true, true, true, true, true, true, false, false, false, false, false, false, false, false, false, false, false, false, false, false]
abbrev sidingref18_Same.Bz40 : Array Bool := #[true, true, true, true, true, true, true, true, true, true, true, true, true, true, true, true, true, true, true, true, true, true, true, true, true, true, true, true, true, true, true, true, true, true, true, true, true, true, true, true, false, false, false, false, false, false, false, false, false, false, false, false, false]
abbrev sidingref18_Same.Bz41 : Array Bool := #[true, true, true, true, true, true, true, true, true, true, true, true, true, true, true, true, true, true, true, true, true, true, true, true, true, true, true, true, true, true, true, true, true, true, true, true, true, true, true, true, true, false, false, false, false, false, false, false, false, false, false, false, false]
abbrev sidingref18_Same.Bz42 : Array Bool := #[true, true, true, true, true, true, true, true, true, true, true, true, true, true, true, true, true, true, true, true, true, true, true, true, true, true, true, true, true, true, true, true, true, true, true, true, true, true, true, true, true, true, false, false, false, false, false, false, false, false, false, false, false]
abbrev sidingref18_Same.Bz43 : Array Bool := #[true, true, true, true, true, true, true, true, true, true, true, true, true, true, true, true, true, true, true, true, true, true, true, true, true, true, true, true, true, true, true, true, true, true, true, true, true, true, true, true, true, true, true, false, false, false, false, false, false, false, false, false, false]
abbrev sidingref18_Same.Bz44 : Array Bool := #[true, true, true, true, true, true, true, true, true, true, true, true, true, true, true, true, true, true, true, true, true, true, true, true, true, true, true, true, true, true, true, true, true, true, true, true, true, true, true, true, true, true, true, true, false, false, false, false, false, false, false, false, false]
abbrev sidingref18_Same.Bz45 : Array Bool := #[true, true, true, true, true, true, true, true, true, true, true, true, true, true, true, true, true, true, true, true, true, true, true, true, true, true, true, true, true, true, true, true, true, true, true, true, true, true, true, true, true, true, true, true, false, true, false, false, false, false, false, false, false]
abbrev sidingref18_Same.Bz46 : Array Bool := #[true, true, true, true, true, true, true, true, true, true, true, true, true, true, true, true, true, true, true, true, true, true, true, true, true, true, true, true, true, true, true, true, true, true, true, true, true, true, true, true, true, true, true, true, false, true, true, false, false, false, false, false, false]
abbrev sidingref18_Same.Bz47 : Array Bool := #[true, true, true, true, true, true, true, true, true, true, true, true, true, true, true, true, true, true, true, true, true, true, true, true, true, true, true, true, true, true, true, true, true, true, true, true, true, true, true, true, true, true, true, true, false, true, true, true, false, false, false, false, false]
abbrev sidingref18_Same.Bz48 : Array Bool := #[true, true, true, true, true, true, true, true, true, true, true, true, true, true, true, true, true, true, true, true, true, true, true, true, true, true, true, true, true, true, true, true, true, true, true, true, true, true, true, true, true, true, true, true, false, true, true, true, true, false, false, false, false]
abbrev sidingref18_Same.Bz49 : Array Bool := #[true, true, true, true, true, true, true, true, true, true, true, true, true, true, true, true, true, true, true, true, true, true, true, true, true, true, true, true, true, true, true, true, true, true, true, true, true, true, true, true, true, true, true, true, true, true, true, true, true, false, false, false, false]
abbrev sidingref18_Same.Bz50 : Array Bool := #[true, true, true, true, true, true, true, true, true, true, true, true, true, true, true, true, true, true, true, true, true, true, true, true, true, true, true, true, true, true, true, true, true, true, true, true, true, true, true, true, true, true, true, true, true, true, true, true, true, true, false, false, false]
abbrev sidingref18_Same.Bz51 : Array Bool := #[true, true, true, true, true, true, true, true, true, true, true, true, true, true, true, true, true, true, true, true, true, true, true, true, true, true, true, true, true, true, true, true, true, true, true, true, true, true, true, true, true, true, true, true, true, true, true, true, true, true, true, false, false]
abbrev sidingref18_Same.Bz52 : Array Bool := #[true, true, true, true, true, true, true, true, true, true, true, true, true, true, true, true, true, true, true, true, true, true, true, true, true, true, true, true, true, true, true, true, true, true, true, true, true, true, true, true, true, true, true, true, true, true, true, true, true, true, true, true, false]
abbrev sidingref18_Same.Bz53 : Array Bool := #[true, true, true, true, true, true, true, true, true, true, true, true, true, true, true, true, true, true, true, true, true, true, true, true, true, true, true, true, true, true, true, true, true, true, true, true, true, true, true, true, true, true, true, true, true, true, true, true, true, true, true, true, true]
abbrev sidingref18_Same.Bz54 : Array Bool := #[true, true, true, true, true, true, true, true, true, true, true, true, true, true, true, true, true, true, true, true, true, true, true, true, true, true, true, true, true, true, true, true, true, true, true, true, true, true, true, true, true, true, true, true, true, false, false, false, false, false, false, false, false]
abbrev sidingref18_Same.Bz55 : Array Bool := #[true, true, true, true, true, true, true, true, true, true, true, true, true, true, true, true, true, true, true, true, true, true, true, true, true, true, true, true, true, true, true, true, true, true, true, true, true, true, true, true, true, true, true, true, true, true, false, false, false, false, false, false, false]
abbrev sidingref18_Same.Bz56 : Array Bool := #[true, true, true, true, true, true, true, true, true, true, true, true, true, true, true, true, true, true, true, true, true, true, true, true, true, true, true, true, true, true, true, true, true, true, true, true, true, true, true, true, true, true, true, true, true, true, true, false, false, false, false, false, false]
abbrev sidingref18_Same.Bz57 : Array Bool := #[true, true, true, true, true, true, true, true, true, true, true, true, true, true, true, true, true, true, true, true, true, true, true, true, true, true, true, true, true, true, true, true, true, true, true, true, true, true, true, true, true, true, true, true, true, true, true, true, false, false, false, false, false]
abbrev sidingref18_Same.Bz58 : Array Bool := #[true, true, true, true, true, true, true, true, true, true, true, true, true, true, true, true, true, true, true, true, true, true, true, true, true, true, true, true, true, true, true, false, false, false, false, false, false, false, false, false, false, false, false, false, false, false, false, false, false, false, false, false, false]
abbrev sidingref18_Same.Bz59 : Array Bool := #[true, true, true, true, true, true, true, true, true, true, true, true, true, true, true, true, true, true, true, true, true, true, true, true, true, true, true, true, true, true, true, true, false, false, false, false, false, false, false, false, false, false, false, false, false, false, false, false, false, false, false, false, false]
abbrev sidingref18_Same.Bz60 : Array Bool := #[true, true, true, true, true, true, true, true, true, true, true, true, true, true, true, true, true, true, true, true, true, true, true, true, true, true, true, true, true, true, true, true, true, false, false, false, false, false, false, false, false, false, false, false, false, false, false, false, false, false, false, false, false]
abbrev sidingref18_Same.Bz61 : Array Bool := #[true, true, true, true, true, true, true, true, true, true, true, true, true, true, true, true, true, true, true, true, true, true, true, true, true, true, true, true, true, true, true, true, true, true, false, false, false, false, false, false, false, false, false, false, false, false, false, false, false, false, false, false, false]
open sidingref18_Same in
set_option maxHeartbeats 8000000 in
set_option maxRecDepth 100000 in
theorem sidingref18_Same.calls (k : Nat) (A0 : Option Addr) (c0 : Nat) (l0 : List (S43)) (A1 : Option Addr) (c1 : Nat) (l1 : List (S43)) (r : Bool) (w : World) (hr0 : Kd.C k43 w A0 l0.length l0) (hc0 : l0.length ≤ c0) (hr1 : Kd.C k43 w A1 l1.length l1) (hc1 : l1.length ≤ c1) (h : sidingref18_Same.f k l0 l1 = some r) :
  Calls Tryd.prog 17 #[.slice A0 l0.length c0, .slice A1 l1.length c1] w fun e w' => e = .returned (.bool r) ∧ Below w.heap.size w w' := by
 have HR0 := Aside0.mk hr0
 have HC0 := Aside0.mk hc0
 clear hr0 hc0
 have HR1 := Aside0.mk hr1
 have HC1 := Aside0.mk hc1
 clear hr1 hc1
 have HB := Aside0.mk (Below.refl w.heap.size w)
 have H : (if (l0.length : Int) = (l1.length : Int) then (sidingref18_Same.l0 k l0 l1 0) else (some false)) = some r := h
 clear h
 by_cases c3 : (l0.length : Int) = (l1.length : Int)
 ·rw [if_pos c3] at H
  have c3b0 : ((l0.length : Int) == (l1.length : Int)) = true := beq_iff_eq.mpr c3
  have c3b1 : ((l0.length : Int) != (l1.length : Int)) = false := bne_eq_false_iff_eq.mpr c3
  have c3b2 : (l0.length == l1.length) = true := by first | simpa using c3 | (simp at c3 ⊢; omega)
  clear c3
  have H' := Aside0.mk H
  clear H
  go_enter Tryd.func17, Tryd.ntmps17
  go_wp2
  go_loopg [5] k (fun kq v5 w' => ∃ (x5_1 : Int), v5 = .int .i64 x5_1 ∧ Aside0 (sidingref18_Same.l0 kq l0 l1 x5_1 = some r) ∧ Aside0 (kq ≤ k) ∧ Aside0 (Below w.heap.size w w'))
  case atStart => exact ⟨(0), (by first | rfl | (simp; done) | (simp [*]; done)), H', ⟨Nat.le_refl _⟩, ⟨by repeat (first | (with_reducible first | exact HB.out | apply below_alloc | apply pw_below_drewN | apply below_drew1) | exact HB.out)⟩⟩
  case round =>
   clear H'
   try clear c1
   try clear p2
   try clear c3
   try clear c3b0
   try clear c3b1
   try clear c3b2
   obtain ⟨x5_1, rfl, HA, HK1, HB⟩ := hrel
   cases gk with
   | zero => exact absurd HA.out (by simp [sidingref18_Same.l0])
   | succ k1 =>
    have H := HA.out
    clear HA
    simp only [sidingref18_Same.l0] at H
    by_cases c4 : x5_1 < (l0.length : Int)
    ·rw [if_pos c4] at H
     have c4b0 : decide (x5_1 < (l0.length : Int)) = true := decide_eq_true c4
     clear c4
     by_cases c5 : 0 ≤ x5_1
     ·rw [if_pos c5] at H
      have c5b0 : decide (0 ≤ x5_1) = true := decide_eq_true c5
      clear c5
      by_cases c6 : x5_1 < (l1.length : Int)
      ·rw [if_pos c6] at H
       have c6b0 : decide (x5_1 < (l1.length : Int)) = true := decide_eq_true c6
       clear c6
       by_cases c7 : ((rd_T43 l0 x5_1).f0) = ((rd_T43 l1 x5_1).f0)
       ·rw [if_pos c7] at H
        have c7b0 : (((rd_T43 l0 x5_1).f0) == ((rd_T43 l1 x5_1).f0)) = true := beq_iff_eq.mpr c7
        have c7b1 : (((rd_T43 l0 x5_1).f0) != ((rd_T43 l1 x5_1).f0)) = false := bne_eq_false_iff_eq.mpr c7
        clear c7
        replace H := Option.bind_eq_some_iff.mp H
        obtain ⟨t298, A80, H⟩ := H
        replace H : (if t298 = true then ((sidingref13_Same.f k1 ((rd_T43 l0 x5_1).f2) ((rd_T43 l1 x5_1).f2)).bind fun t301 => (if t301 = true then ((sidingref13_Same.f k1 ((rd_T43 l0 x5_1).f3) ((rd_T43 l1 x5_1).f3)).bind fun t304 => (if t304 = true then (sidingref18_Same.l0 k1 l0 l1 (wrap64 (x5_1 + 1))) else (some false))) else (some false))) else (some false)) = some r := H
        have A8 := Aside0.mk A80
        clear A80
        by_cases c9 : t298 = true
        ·subst c9
         have H1 : ((sidingref13_Same.f k1 ((rd_T43 l0 x5_1).f2) ((rd_T43 l1 x5_1).f2)).bind fun t301 => (if t301 = true then ((sidingref13_Same.f k1 ((rd_T43 l0 x5_1).f3) ((rd_T43 l1 x5_1).f3)).bind fun t304 => (if t304 = true then (sidingref18_Same.l0 k1 l0 l1 (wrap64 (x5_1 + 1))) else (some false))) else (some false))) = some r := by rw [if_pos rfl] at H; exact H
         clear H
         have H := H1
         clear H1
         replace H := Option.bind_eq_some_iff.mp H
         obtain ⟨t301, A100, H⟩ := H
         replace H : (if t301 = true then ((sidingref13_Same.f k1 ((rd_T43 l0 x5_1).f3) ((rd_T43 l1 x5_1).f3)).bind fun t304 => (if t304 = true then (sidingref18_Same.l0 k1 l0 l1 (wrap64 (x5_1 + 1))) else (some false))) else (some false)) = some r := H
         have A10 := Aside0.mk A100
         (try have sameA10 := (Option.some.inj (A8.out.symm.trans A10.out) : t298 = t301))
         clear A100
         by_cases c11 : t301 = true
         ·subst c11
          have H1 : ((sidingref13_Same.f k1 ((rd_T43 l0 x5_1).f3) ((rd_T43 l1 x5_1).f3)).bind fun t304 => (if t304 = true then (sidingref18_Same.l0 k1 l0 l1 (wrap64 (x5_1 + 1))) else (some false))) = some r := by rw [if_pos rfl] at H; exact H
          clear H
          have H := H1
          clear H1
          replace H := Option.bind_eq_some_iff.mp H
          obtain ⟨t304, A120, H⟩ := H
          replace H : (if t304 = true then (sidingref18_Same.l0 k1 l0 l1 (wrap64 (x5_1 + 1))) else (some false)) = some r := H
          have A12 := Aside0.mk A120
          (try have sameA12 := (Option.some.inj (A10.out.symm.trans A12.out) : t301 = t304))
          clear A120
          by_cases c13 : t304 = true
          ·subst c13
           have H1 : (sidingref18_Same.l0 k1 l0 l1 (wrap64 (x5_1 + 1))) = some r := by rw [if_pos rfl] at H; exact H
           clear H
           have H := H1
           clear H1
           have H' := Aside0.mk H
           clear H
           try go_wp2
           have n0_ := Aside0.mk (below_drew1 HB.out)
           clear HB
           have HB := n0_
           clear n0_
           have p294 : 0 ≤ (x5_1 : Int) := of_decide_eq_true (by first | (with_reducible assumption) | assumption)
           have q294 : x5_1 < (l0.length : Int) := of_decide_eq_true (by first | (with_reducible assumption) | assumption)
           obtain ⟨ad294, A294_1, c294_1, A294_2, c294_2, A294_3, c294_3, e294, hx294_0, hx294_1, hx294_2, hx294_3, hl294_1, hi294_1, hl294_2, hi294_2, hl294_3, hi294_3⟩ := at_T43 HR0.out x5_1 p294 q294
           have hw294_3 := hx294_3
           have hw294_2 := hx294_2
           have hw294_1 := hx294_1
           have hw294_0 := hx294_0
           cases e294
           replace hx294_0 := (HB.out.cell (World.block_lt_of_cell? w _ hx294_0)).trans hx294_0
           replace hx294_1 := (HB.out.cell (World.block_lt_of_cell? w _ hx294_1)).trans hx294_1
           replace hx294_2 := (HB.out.cell (World.block_lt_of_cell? w _ hx294_2)).trans hx294_2
           replace hx294_3 := (HB.out.cell (World.block_lt_of_cell? w _ hx294_3)).trans hx294_3
           have HR294_1 := Aside0.mk hi294_1
           have HC294_1 := Aside0.mk hl294_1
           clear hi294_1 hl294_1
           have HR294_2 := Aside0.mk hi294_2
           have HC294_2 := Aside0.mk hl294_2
           clear hi294_2 hl294_2
           have HR294_3 := Aside0.mk hi294_3
           have HC294_3 := Aside0.mk hl294_3
           clear hi294_3 hl294_3
           replace p294 := eq_true p294
           replace q294 := eq_true q294
           have p295 : 0 ≤ (x5_1 : Int) := of_decide_eq_true (by first | (with_reducible assumption) | assumption)
           have q295 : x5_1 < (l1.length : Int) := of_decide_eq_true (by first | (with_reducible assumption) | assumption)
           obtain ⟨ad295, A295_1, c295_1, A295_2, c295_2, A295_3, c295_3, e295, hx295_0, hx295_1, hx295_2, hx295_3, hl295_1, hi295_1, hl295_2, hi295_2, hl295_3, hi295_3⟩ := at_T43 HR1.out x5_1 p295 q295
           have hw295_3 := hx295_3
           have hw295_2 := hx295_2
           have hw295_1 := hx295_1
           have hw295_0 := hx295_0
           cases e295
           replace hx295_0 := (HB.out.cell (World.block_lt_of_cell? w _ hx295_0)).trans hx295_0
           replace hx295_1 := (HB.out.cell (World.block_lt_of_cell? w _ hx295_1)).trans hx295_1
           replace hx295_2 := (HB.out.cell (World.block_lt_of_cell? w _ hx295_2)).trans hx295_2
           replace hx295_3 := (HB.out.cell (World.block_lt_of_cell? w _ hx295_3)).trans hx295_3
           have HR295_1 := Aside0.mk hi295_1
           have HC295_1 := Aside0.mk hl295_1
           clear hi295_1 hl295_1
           have HR295_2 := Aside0.mk hi295_2
           have HC295_2 := Aside0.mk hl295_2
           clear hi295_2 hl295_2
           have HR295_3 := Aside0.mk hi295_3
           have HC295_3 := Aside0.mk hl295_3
           clear hi295_3 hl295_3
           replace p295 := eq_true p295
           replace q295 := eq_true q295
           have p296 : 0 ≤ (x5_1 : Int) := of_decide_eq_true (by first | (with_reducible assumption) | assumption)
           have q296 : x5_1 < (l0.length : Int) := of_decide_eq_true (by first | (with_reducible assumption) | assumption)
           obtain ⟨ad296, A296_1, c296_1, A296_2, c296_2, A296_3, c296_3, e296, hx296_0, hx296_1, hx296_2, hx296_3, hl296_1, hi296_1, hl296_2, hi296_2, hl296_3, hi296_3⟩ := at_T43 HR0.out x5_1 p296 q296
           have hw296_3 := hx296_3
           have hw296_2 := hx296_2
           have hw296_1 := hx296_1
           have hw296_0 := hx296_0
           obtain rfl : ad294 = ad296 := (by injection e296)
           replace hx296_0 := (HB.out.cell (World.block_lt_of_cell? w _ hx296_0)).trans hx296_0
           replace hx296_1 := (HB.out.cell (World.block_lt_of_cell? w _ hx296_1)).trans hx296_1
           replace hx296_2 := (HB.out.cell (World.block_lt_of_cell? w _ hx296_2)).trans hx296_2
           replace hx296_3 := (HB.out.cell (World.block_lt_of_cell? w _ hx296_3)).trans hx296_3
           have HR296_1 := Aside0.mk hi296_1
           have HC296_1 := Aside0.mk hl296_1
           clear hi296_1 hl296_1
           have HR296_2 := Aside0.mk hi296_2
           have HC296_2 := Aside0.mk hl296_2
           clear hi296_2 hl296_2
           have HR296_3 := Aside0.mk hi296_3
           have HC296_3 := Aside0.mk hl296_3
           clear hi296_3 hl296_3
           replace p296 := eq_true p296
           replace q296 := eq_true q296
           have ea_ := Option.some.inj (hx294_1.symm.trans hx296_1)
           injection ea_ with ea_ en_ ec_
           subst ea_
           subst ec_
           clear en_
           have ea_ := Option.some.inj (hx294_2.symm.trans hx296_2)
           injection ea_ with ea_ en_ ec_
           subst ea_
           subst ec_
           clear en_
           have ea_ := Option.some.inj (hx294_3.symm.trans hx296_3)
           injection ea_ with ea_ en_ ec_
           subst ea_
           subst ec_
           clear en_
           have p297 : 0 ≤ (x5_1 : Int) := of_decide_eq_true (by first | (with_reducible assumption) | assumption)
           have q297 : x5_1 < (l1.length : Int) := of_decide_eq_true (by first | (with_reducible assumption) | assumption)
           obtain ⟨ad297, A297_1, c297_1, A297_2, c297_2, A297_3, c297_3, e297, hx297_0, hx297_1, hx297_2, hx297_3, hl297_1, hi297_1, hl297_2, hi297_2, hl297_3, hi297_3⟩ := at_T43 HR1.out x5_1 p297 q297
           have hw297_3 := hx297_3
           have hw297_2 := hx297_2
           have hw297_1 := hx297_1
           have hw297_0 := hx297_0
           obtain rfl : ad295 = ad297 := (by injection e297)
           replace hx297_0 := (HB.out.cell (World.block_lt_of_cell? w _ hx297_0)).trans hx297_0
           replace hx297_1 := (HB.out.cell (World.block_lt_of_cell? w _ hx297_1)).trans hx297_1
           replace hx297_2 := (HB.out.cell (World.block_lt_of_cell? w _ hx297_2)).trans hx297_2
           replace hx297_3 := (HB.out.cell (World.block_lt_of_cell? w _ hx297_3)).trans hx297_3
           have HR297_1 := Aside0.mk hi297_1
           have HC297_1 := Aside0.mk hl297_1
           clear hi297_1 hl297_1
           have HR297_2 := Aside0.mk hi297_2
           have HC297_2 := Aside0.mk hl297_2
           clear hi297_2 hl297_2
           have HR297_3 := Aside0.mk hi297_3
           have HC297_3 := Aside0.mk hl297_3
           clear hi297_3 hl297_3
           replace p297 := eq_true p297
           replace q297 := eq_true q297
           have ea_ := Option.some.inj (hx295_1.symm.trans hx297_1)
           injection ea_ with ea_ en_ ec_
           subst ea_
           subst ec_
           clear en_
           have ea_ := Option.some.inj (hx295_2.symm.trans hx297_2)
           injection ea_ with ea_ en_ ec_
           subst ea_
           subst ec_
           clear en_
           have ea_ := Option.some.inj (hx295_3.symm.trans hx297_3)
           injection ea_ with ea_ en_ ec_
           subst ea_
           subst ec_
           clear en_
           have p299 : 0 ≤ (x5_1 : Int) := of_decide_eq_true (by first | (with_reducible assumption) | assumption)
           have q299 : x5_1 < (l0.length : Int) := of_decide_eq_true (by first | (with_reducible assumption) | assumption)
           obtain ⟨ad299, A299_1, c299_1, A299_2, c299_2, A299_3, c299_3, e299, hx299_0, hx299_1, hx299_2, hx299_3, hl299_1, hi299_1, hl299_2, hi299_2, hl299_3, hi299_3⟩ := at_T43 HR0.out x5_1 p299 q299
           have hw299_3 := hx299_3
           have hw299_2 := hx299_2
           have hw299_1 := hx299_1
           have hw299_0 := hx299_0
           obtain rfl : ad294 = ad299 := (by injection e299)
           replace hx299_0 := (HB.out.cell (World.block_lt_of_cell? w _ hx299_0)).trans hx299_0
           replace hx299_1 := (HB.out.cell (World.block_lt_of_cell? w _ hx299_1)).trans hx299_1
           replace hx299_2 := (HB.out.cell (World.block_lt_of_cell? w _ hx299_2)).trans hx299_2
           replace hx299_3 := (HB.out.cell (World.block_lt_of_cell? w _ hx299_3)).trans hx299_3
           have HR299_1 := Aside0.mk hi299_1
           have HC299_1 := Aside0.mk hl299_1
           clear hi299_1 hl299_1
           have HR299_2 := Aside0.mk hi299_2
           have HC299_2 := Aside0.mk hl299_2
           clear hi299_2 hl299_2
           have HR299_3 := Aside0.mk hi299_3
           have HC299_3 := Aside0.mk hl299_3
           clear hi299_3 hl299_3
           replace p299 := eq_true p299
           replace q299 := eq_true q299
           have ea_ := Option.some.inj (hx294_1.symm.trans hx299_1)
           injection ea_ with ea_ en_ ec_
           subst ea_
           subst ec_
           clear en_
           have ea_ := Option.some.inj (hx294_2.symm.trans hx299_2)
           injection ea_ with ea_ en_ ec_
           subst ea_
           subst ec_
           clear en_
           have ea_ := Option.some.inj (hx294_3.symm.trans hx299_3)
           injection ea_ with ea_ en_ ec_
           subst ea_
           subst ec_
           clear en_
           have p300 : 0 ≤ (x5_1 : Int) := of_decide_eq_true (by first | (with_reducible assumption) | assumption)
           have q300 : x5_1 < (l1.length : Int) := of_decide_eq_true (by first | (with_reducible assumption) | assumption)
           obtain ⟨ad300, A300_1, c300_1, A300_2, c300_2, A300_3, c300_3, e300, hx300_0, hx300_1, hx300_2, hx300_3, hl300_1, hi300_1, hl300_2, hi300_2, hl300_3, hi300_3⟩ := at_T43 HR1.out x5_1 p300 q300
           have hw300_3 := hx300_3
           have hw300_2 := hx300_2
           have hw300_1 := hx300_1
           have hw300_0 := hx300_0
           obtain rfl : ad295 = ad300 := (by injection e300)
           replace hx300_0 := (HB.out.cell (World.block_lt_of_cell? w _ hx300_0)).trans hx300_0
           replace hx300_1 := (HB.out.cell (World.block_lt_of_cell? w _ hx300_1)).trans hx300_1
           replace hx300_2 := (HB.out.cell (World.block_lt_of_cell? w _ hx300_2)).trans hx300_2
           replace hx300_3 := (HB.out.cell (World.block_lt_of_cell? w _ hx300_3)).trans hx300_3
           have HR300_1 := Aside0.mk hi300_1
           have HC300_1 := Aside0.mk hl300_1
           clear hi300_1 hl300_1
           have HR300_2 := Aside0.mk hi300_2
           have HC300_2 := Aside0.mk hl300_2
           clear hi300_2 hl300_2
           have HR300_3 := Aside0.mk hi300_3
           have HC300_3 := Aside0.mk hl300_3
           clear hi300_3 hl300_3
           replace p300 := eq_true p300
           replace q300 := eq_true q300
           have ea_ := Option.some.inj (hx295_1.symm.trans hx300_1)
           injection ea_ with ea_ en_ ec_
           subst ea_
           subst ec_
           clear en_
           have ea_ := Option.some.inj (hx295_2.symm.trans hx300_2)
           injection ea_ with ea_ en_ ec_
           subst ea_
           subst ec_
           clear en_
           have ea_ := Option.some.inj (hx295_3.symm.trans hx300_3)
           injection ea_ with ea_ en_ ec_
           subst ea_
           subst ec_
           clear en_
           have p302 : 0 ≤ (x5_1 : Int) := of_decide_eq_true (by first | (with_reducible assumption) | assumption)
           have q302 : x5_1 < (l0.length : Int) := of_decide_eq_true (by first | (with_reducible assumption) | assumption)
           obtain ⟨ad302, A302_1, c302_1, A302_2, c302_2, A302_3, c302_3, e302, hx302_0, hx302_1, hx302_2, hx302_3, hl302_1, hi302_1, hl302_2, hi302_2, hl302_3, hi302_3⟩ := at_T43 HR0.out x5_1 p302 q302
           have hw302_3 := hx302_3
           have hw302_2 := hx302_2
           have hw302_1 := hx302_1
           have hw302_0 := hx302_0
           obtain rfl : ad294 = ad302 := (by injection e302)
           replace hx302_0 := (HB.out.cell (World.block_lt_of_cell? w _ hx302_0)).trans hx302_0
           replace hx302_1 := (HB.out.cell (World.block_lt_of_cell? w _ hx302_1)).trans hx302_1
           replace hx302_2 := (HB.out.cell (World.block_lt_of_cell? w _ hx302_2)).trans hx302_2
           replace hx302_3 := (HB.out.cell (World.block_lt_of_cell? w _ hx302_3)).trans hx302_3
           have HR302_1 := Aside0.mk hi302_1
           have HC302_1 := Aside0.mk hl302_1
           clear hi302_1 hl302_1
           have HR302_2 := Aside0.mk hi302_2
           have HC302_2 := Aside0.mk hl302_2
           clear hi302_2 hl302_2
           have HR302_3 := Aside0.mk hi302_3
           have HC302_3 := Aside0.mk hl302_3
           clear hi302_3 hl302_3
           replace p302 := eq_true p302
           replace q302 := eq_true q302
           have ea_ := Option.some.inj (hx294_1.symm.trans hx302_1)
           injection ea_ with ea_ en_ ec_
           subst ea_
           subst ec_
           clear en_
           have ea_ := Option.some.inj (hx294_2.symm.trans hx302_2)
           injection ea_ with ea_ en_ ec_
           subst ea_
           subst ec_
           clear en_
           have ea_ := Option.some.inj (hx294_3.symm.trans hx302_3)
           injection ea_ with ea_ en_ ec_
           subst ea_
           subst ec_
           clear en_
           have p303 : 0 ≤ (x5_1 : Int) := of_decide_eq_true (by first | (with_reducible assumption) | assumption)
           have q303 : x5_1 < (l1.length : Int) := of_decide_eq_true (by first | (with_reducible assumption) | assumption)
           obtain ⟨ad303, A303_1, c303_1, A303_2, c303_2, A303_3, c303_3, e303, hx303_0, hx303_1, hx303_2, hx303_3, hl303_1, hi303_1, hl303_2, hi303_2, hl303_3, hi303_3⟩ := at_T43 HR1.out x5_1 p303 q303
           have hw303_3 := hx303_3
           have hw303_2 := hx303_2
           have hw303_1 := hx303_1
           have hw303_0 := hx303_0
           obtain rfl : ad295 = ad303 := (by injection e303)
           replace hx303_0 := (HB.out.cell (World.block_lt_of_cell? w _ hx303_0)).trans hx303_0
           replace hx303_1 := (HB.out.cell (World.block_lt_of_cell? w _ hx303_1)).trans hx303_1
           replace hx303_2 := (HB.out.cell (World.block_lt_of_cell? w _ hx303_2)).trans hx303_2
           replace hx303_3 := (HB.out.cell (World.block_lt_of_cell? w _ hx303_3)).trans hx303_3
           have HR303_1 := Aside0.mk hi303_1
           have HC303_1 := Aside0.mk hl303_1
           clear hi303_1 hl303_1
           have HR303_2 := Aside0.mk hi303_2
           have HC303_2 := Aside0.mk hl303_2
           clear hi303_2 hl303_2
           have HR303_3 := Aside0.mk hi303_3
           have HC303_3 := Aside0.mk hl303_3
           clear hi303_3 hl303_3
           replace p303 := eq_true p303
           replace q303 := eq_true q303
           have ea_ := Option.some.inj (hx295_1.symm.trans hx303_1)
           injection ea_ with ea_ en_ ec_
           subst ea_
           subst ec_
           clear en_
           have ea_ := Option.some.inj (hx295_2.symm.trans hx303_2)
           injection ea_ with ea_ en_ ec_
           subst ea_
           subst ec_
           clear en_
           have ea_ := Option.some.inj (hx295_3.symm.trans hx303_3)
           injection ea_ with ea_ en_ ec_
           subst ea_
           subst ec_
           clear en_
           refine start_ (n := 53) (S := fun w' => w'.cell? (ad294.add ((x5_1).toNat * 4)) = some (.int .u8 ((rd_T43 l0 x5_1).f0)) ∧ w'.cell? ⟨(ad294.add ((x5_1).toNat * 4)).block, (ad294.add ((x5_1).toNat * 4)).off + 1, none⟩ = some (.slice A294_1 ((rd_T43 l0 x5_1).f1).length c294_1) ∧ w'.cell? ⟨(ad294.add ((x5_1).toNat * 4)).block, (ad294.add ((x5_1).toNat * 4)).off + 2, none⟩ = some (.slice A294_2 ((rd_T43 l0 x5_1).f2).length c294_2) ∧ w'.cell? ⟨(ad294.add ((x5_1).toNat * 4)).block, (ad294.add ((x5_1).toNat * 4)).off + 3, none⟩ = some (.slice A294_3 ((rd_T43 l0 x5_1).f3).length c294_3) ∧ w'.cell? (ad295.add ((x5_1).toNat * 4)) = some (.int .u8 ((rd_T43 l1 x5_1).f0)) ∧ w'.cell? ⟨(ad295.add ((x5_1).toNat * 4)).block, (ad295.add ((x5_1).toNat * 4)).off + 1, none⟩ = some (.slice A295_1 ((rd_T43 l1 x5_1).f1).length c295_1) ∧ w'.cell? ⟨(ad295.add ((x5_1).toNat * 4)).block, (ad295.add ((x5_1).toNat * 4)).off + 2, none⟩ = some (.slice A295_2 ((rd_T43 l1 x5_1).f2).length c295_2) ∧ w'.cell? ⟨(ad295.add ((x5_1).toNat * 4)).block, (ad295.add ((x5_1).toNat * 4)).off + 3, none⟩ = some (.slice A295_3 ((rd_T43 l1 x5_1).f3).length c295_3) ∧ w'.cell? (ad294.add ((x5_1).toNat * 4)) = some (.int .u8 ((rd_T43 l0 x5_1).f0)) ∧ w'.cell? ⟨(ad294.add ((x5_1).toNat * 4)).block, (ad294.add ((x5_1).toNat * 4)).off + 1, none⟩ = some (.slice A294_1 ((rd_T43 l0 x5_1).f1).length c294_1) ∧ w'.cell? ⟨(ad294.add ((x5_1).toNat * 4)).block, (ad294.add ((x5_1).toNat * 4)).off + 2, none⟩ = some (.slice A294_2 ((rd_T43 l0 x5_1).f2).length c294_2) ∧ w'.cell? ⟨(ad294.add ((x5_1).toNat * 4)).block, (ad294.add ((x5_1).toNat * 4)).off + 3, none⟩ = some (.slice A294_3 ((rd_T43 l0 x5_1).f3).length c294_3) ∧ w'.cell? (ad295.add ((x5_1).toNat * 4)) = some (.int .u8 ((rd_T43 l1 x5_1).f0)) ∧ w'.cell? ⟨(ad295.add ((x5_1).toNat * 4)).block, (ad295.add ((x5_1).toNat * 4)).off + 1, none⟩ = some (.slice A295_1 ((rd_T43 l1 x5_1).f1).length c295_1) ∧ w'.cell? ⟨(ad295.add ((x5_1).toNat * 4)).block, (ad295.add ((x5_1).toNat * 4)).off + 2, none⟩ = some (.slice A295_2 ((rd_T43 l1 x5_1).f2).length c295_2) ∧ w'.cell? ⟨(ad295.add ((x5_1).toNat * 4)).block, (ad295.add ((x5_1).toNat * 4)).off + 3, none⟩ = some (.slice A295_3 ((rd_T43 l1 x5_1).f3).length c295_3) ∧ w'.cell? (ad294.add ((x5_1).toNat * 4)) = some (.int .u8 ((rd_T43 l0 x5_1).f0)) ∧ w'.cell? ⟨(ad294.add ((x5_1).toNat * 4)).block, (ad294.add ((x5_1).toNat * 4)).off + 1, none⟩ = some (.slice A294_1 ((rd_T43 l0 x5_1).f1).length c294_1) ∧ w'.cell? ⟨(ad294.add ((x5_1).toNat * 4)).block, (ad294.add ((x5_1).toNat * 4)).off + 2, none⟩ = some (.slice A294_2 ((rd_T43 l0 x5_1).f2).length c294_2) ∧ w'.cell? ⟨(ad294.add ((x5_1).toNat * 4)).block, (ad294.add ((x5_1).toNat * 4)).off + 3, none⟩ = some (.slice A294_3 ((rd_T43 l0 x5_1).f3).length c294_3) ∧ w'.cell? (ad295.add ((x5_1).toNat * 4)) = some (.int .u8 ((rd_T43 l1 x5_1).f0)) ∧ w'.cell? ⟨(ad295.add ((x5_1).toNat * 4)).block, (ad295.add ((x5_1).toNat * 4)).off + 1, none⟩ = some (.slice A295_1 ((rd_T43 l1 x5_1).f1).length c295_1) ∧ w'.cell? ⟨(ad295.add ((x5_1).toNat * 4)).block, (ad295.add ((x5_1).toNat * 4)).off + 2, none⟩ = some (.slice A295_2 ((rd_T43 l1 x5_1).f2).length c295_2) ∧ w'.cell? ⟨(ad295.add ((x5_1).toNat * 4)).block, (ad295.add ((x5_1).toNat * 4)).off + 3, none⟩ = some (.slice A295_3 ((rd_T43 l1 x5_1).f3).length c295_3) ∧ w'.cell? (ad294.add ((x5_1).toNat * 4)) = some (.int .u8 ((rd_T43 l0 x5_1).f0)) ∧ w'.cell? ⟨(ad294.add ((x5_1).toNat * 4)).block, (ad294.add ((x5_1).toNat * 4)).off + 1, none⟩ = some (.slice A294_1 ((rd_T43 l0 x5_1).f1).length c294_1) ∧ w'.cell? ⟨(ad294.add ((x5_1).toNat * 4)).block, (ad294.add ((x5_1).toNat * 4)).off + 2, none⟩ = some (.slice A294_2 ((rd_T43 l0 x5_1).f2).length c294_2) ∧ w'.cell? ⟨(ad294.add ((x5_1).toNat * 4)).block, (ad294.add ((x5_1).toNat * 4)).off + 3, none⟩ = some (.slice A294_3 ((rd_T43 l0 x5_1).f3).length c294_3) ∧ w'.cell? (ad295.add ((x5_1).toNat * 4)) = some (.int .u8 ((rd_T43 l1 x5_1).f0)) ∧ w'.cell? ⟨(ad295.add ((x5_1).toNat * 4)).block, (ad295.add ((x5_1).toNat * 4)).off + 1, none⟩ = some (.slice A295_1 ((rd_T43 l1 x5_1).f1).length c295_1) ∧ w'.cell? ⟨(ad295.add ((x5_1).toNat * 4)).block, (ad295.add ((x5_1).toNat * 4)).off + 2, none⟩ = some (.slice A295_2 ((rd_T43 l1 x5_1).f2).length c295_2) ∧ w'.cell? ⟨(ad295.add ((x5_1).toNat * 4)).block, (ad295.add ((x5_1).toNat * 4)).off + 3, none⟩ = some (.slice A295_3 ((rd_T43 l1 x5_1).f3).length c295_3)) (ds := []) Bz0 (by kernel_rfl) rfl rfl ⟨((HB.out.cell (World.block_lt_of_cell? w _ hw294_0)).trans hw294_0), ((HB.out.cell (World.block_lt_of_cell? w _ hw294_1)).trans hw294_1), ((HB.out.cell (World.block_lt_of_cell? w _ hw294_2)).trans hw294_2), ((HB.out.cell (World.block_lt_of_cell? w _ hw294_3)).trans hw294_3), ((HB.out.cell (World.block_lt_of_cell? w _ hw295_0)).trans hw295_0), ((HB.out.cell (World.block_lt_of_cell? w _ hw295_1)).trans hw295_1), ((HB.out.cell (World.block_lt_of_cell? w _ hw295_2)).trans hw295_2), ((HB.out.cell (World.block_lt_of_cell? w _ hw295_3)).trans hw295_3), ((HB.out.cell (World.block_lt_of_cell? w _ hw296_0)).trans hw296_0), ((HB.out.cell (World.block_lt_of_cell? w _ hw296_1)).trans hw296_1), ((HB.out.cell (World.block_lt_of_cell? w _ hw296_2)).trans hw296_2), ((HB.out.cell (World.block_lt_of_cell? w _ hw296_3)).trans hw296_3), ((HB.out.cell (World.block_lt_of_cell? w _ hw297_0)).trans hw297_0), ((HB.out.cell (World.block_lt_of_cell? w _ hw297_1)).trans hw297_1), ((HB.out.cell (World.block_lt_of_cell? w _ hw297_2)).trans hw297_2), ((HB.out.cell (World.block_lt_of_cell? w _ hw297_3)).trans hw297_3), ((HB.out.cell (World.block_lt_of_cell? w _ hw299_0)).trans hw299_0), ((HB.out.cell (World.block_lt_of_cell? w _ hw299_1)).trans hw299_1), ((HB.out.cell (World.block_lt_of_cell? w _ hw299_2)).trans hw299_2), ((HB.out.cell (World.block_lt_of_cell? w _ hw299_3)).trans hw299_3), ((HB.out.cell (World.block_lt_of_cell? w _ hw300_0)).trans hw300_0), ((HB.out.cell (World.block_lt_of_cell? w _ hw300_1)).trans hw300_1), ((HB.out.cell (World.block_lt_of_cell? w _ hw300_2)).trans hw300_2), ((HB.out.cell (World.block_lt_of_cell? w _ hw300_3)).trans hw300_3), ((HB.out.cell (World.block_lt_of_cell? w _ hw302_0)).trans hw302_0), ((HB.out.cell (World.block_lt_of_cell? w _ hw302_1)).trans hw302_1), ((HB.out.cell (World.block_lt_of_cell? w _ hw302_2)).trans hw302_2), ((HB.out.cell (World.block_lt_of_cell? w _ hw302_3)).trans hw302_3), ((HB.out.cell (World.block_lt_of_cell? w _ hw303_0)).trans hw303_0), ((HB.out.cell (World.block_lt_of_cell? w _ hw303_1)).trans hw303_1), ((HB.out.cell (World.block_lt_of_cell? w _ hw303_2)).trans hw303_2), ((HB.out.cell (World.block_lt_of_cell? w _ hw303_3)).trans hw303_3)⟩ (fun hHeld => ?_); refine with_tabW sidingref18_Same.tab6 sidingref18_Same.bits6 (fun HT_ HW_ => ?_)
           generalize wr.drew = w14 at HB HR294_1 HR294_2 HR294_3 HR295_1 HR295_2 HR295_3 HR296_1 HR296_2 HR296_3 HR297_1 HR297_2 HR297_3 HR299_1 HR299_2 HR299_3 HR300_1 HR300_2 HR300_3 HR302_1 HR302_2 HR302_3 HR303_1 HR303_2 HR303_3 hx294_0 hx294_1 hx294_2 hx294_3 hx295_0 hx295_1 hx295_2 hx295_3 hx296_0 hx296_1 hx296_2 hx296_3 hx297_0 hx297_1 hx297_2 hx297_3 hx299_0 hx299_1 hx299_2 hx299_3 hx300_0 hx300_1 hx300_2 hx300_3 hx302_0 hx302_1 hx302_2 hx302_3 hx303_0 hx303_1 hx303_2 hx303_3 hHeld ⊢
           refine pu 0 17 Bz1 rfl rfl (any_of HT_.out (by kernel_rfl)) ?_
           refine pu 1 18 Bz2 rfl rfl (any_of HT_.out (by kernel_rfl)) ?_
           refine pu 2 19 Bz3 rfl rfl (any_of HT_.out (by kernel_rfl)) ?_
           refine pu 3 20 Bz4 rfl rfl (any_of HT_.out (by kernel_rfl)) ?_
           refine pu 5 22 Bz5 rfl rfl (any_of HT_.out (by kernel_rfl)) ?_
           refine pu 6 23 Bz6 rfl rfl (any_of HT_.out (by kernel_rfl)) ?_
           refine pu 7 24 Bz7 rfl rfl (any_of HT_.out (by kernel_rfl)) ?_
           refine pu 8 25 Bz8 rfl rfl (any_of HT_.out (by kernel_rfl)) ?_
           refine take_ (i := 4) (N := some 21) (v := ?_) (a' := ?_) Bz9 rfl rfl (take_ofW HT_.out HW_.out (by kernel_rfl)) (fun _ _ _ h => h) (Or.inl ⟨by rfl, ?_⟩) hHeld ?_ ?_; rotate_left; (focus rintro w' ⟨s0, s1, s2, s3, s4, s5, s6, s7, s8, s9, s10, s11, s12, s13, s14, s15, s16, s17, s18, s19, s20, s21, s22, s23, s24, s25, s26, s27, s28, s29, s30, s31⟩; go_simp; with_reducible rfl); rotate_left; (focus go_simp; rfl)
           refine take_ (i := 9) (N := some 26) (v := ?_) (a' := ?_) Bz10 rfl rfl (take_ofW HT_.out HW_.out (by kernel_rfl)) (fun _ _ _ h => h) (Or.inl ⟨by rfl, ?_⟩) hHeld ?_ ?_; rotate_left; (focus rintro w' ⟨s0, s1, s2, s3, s4, s5, s6, s7, s8, s9, s10, s11, s12, s13, s14, s15, s16, s17, s18, s19, s20, s21, s22, s23, s24, s25, s26, s27, s28, s29, s30, s31⟩; go_simp; with_reducible rfl); rotate_left; (focus go_simp; rfl)
           refine pu 10 27 Bz11 rfl rfl (any_of HT_.out (by kernel_rfl)) ?_
           refine pu 11 28 Bz12 rfl rfl (any_of HT_.out (by kernel_rfl)) ?_
           refine pu 12 29 Bz13 rfl rfl (any_of HT_.out (by kernel_rfl)) ?_
           refine pu 13 30 Bz14 rfl rfl (any_of HT_.out (by kernel_rfl)) ?_
           refine pu 14 31 Bz15 rfl rfl (any_of HT_.out (by kernel_rfl)) ?_
           refine pu 15 32 Bz16 rfl rfl (any_of HT_.out (by kernel_rfl)) ?_
           refine pu 17 34 Bz17 rfl rfl (any_of HT_.out (by kernel_rfl)) ?_
           refine pu 18 35 Bz18 rfl rfl (any_of HT_.out (by kernel_rfl)) ?_
           refine pu 19 36 Bz19 rfl rfl (any_of HT_.out (by kernel_rfl)) ?_
           refine pu 20 37 Bz20 rfl rfl (any_of HT_.out (by kernel_rfl)) ?_
           refine take_ (i := 16) (N := some 33) (v := ?_) (a' := ?_) Bz21 rfl rfl (take_ofW HT_.out HW_.out (by kernel_rfl)) (fun _ _ _ h => h) (Or.inl ⟨by rfl, ?_⟩) hHeld ?_ ?_; rotate_left; (focus rintro w' ⟨s0, s1, s2, s3, s4, s5, s6, s7, s8, s9, s10, s11, s12, s13, s14, s15, s16, s17, s18, s19, s20, s21, s22, s23, s24, s25, s26, s27, s28, s29, s30, s31⟩; go_simp; with_reducible rfl); rotate_left; (focus go_simp; rfl)
           refine take_ (i := 21) (N := some 38) (v := ?_) (a' := ?_) Bz22 rfl rfl (take_ofW HT_.out HW_.out (by kernel_rfl)) (fun _ _ _ h => h) (Or.inl ⟨by rfl, ?_⟩) hHeld ?_ ?_; rotate_left; (focus rintro w' ⟨s0, s1, s2, s3, s4, s5, s6, s7, s8, s9, s10, s11, s12, s13, s14, s15, s16, s17, s18, s19, s20, s21, s22, s23, s24, s25, s26, s27, s28, s29, s30, s31⟩; go_simp; with_reducible rfl); rotate_left; (focus go_simp; rfl)
           refine one_ (i := 22) (N := some 39) Bz23 rfl rfl (one_of HT_.out (by kernel_rfl)) (by decide) (fun K hK => ?_)
           refine goes_ Tryd.func16 (by kernel_rfl) rfl #[.slice A294_1 ((rd_T43 l0 x5_1).f1).length c294_1, .slice A295_1 ((rd_T43 l1 x5_1).f1).length c295_1] (by rfl) rfl rfl (by (try simp only [List.map_toArray, List.map_cons, List.map_nil]); first | done | rfl | (simp only [List.length_drop, List.length_take]; rfl)) ?_
           with_reducible refine (sidingref13_Same.calls k1 _ _ ((rd_T43 l0 x5_1).f1) _ _ ((rd_T43 l1 x5_1).f1) true _ ?side1 ?side2 ?side3 ?side4 A8.out).mono ?_
           (case side1 => repeat (first | exact (Kd.C_below HR296_1.out HB.out) | (with_reducible refine Kd.C_alloc ?_ _) | (with_reducible refine Kd.C_drewN ?_ _) | (with_reducible refine Kd.C_drew ?_)))
           (case side2 => exact HC296_1.out)
           (case side3 => repeat (first | exact (Kd.C_below HR297_1.out HB.out) | (with_reducible refine Kd.C_alloc ?_ _) | (with_reducible refine Kd.C_drewN ?_ _) | (with_reducible refine Kd.C_drew ?_)))
           (case side4 => exact HC297_1.out)
           rintro e w' ⟨rfl, ⟨nd, rfl⟩⟩
           refine ⟨_, rfl, ?_⟩
           refine hK.out _ _ ⟨((HB.out.cell (World.block_lt_of_cell? w _ hw294_0)).trans hw294_0), ((HB.out.cell (World.block_lt_of_cell? w _ hw294_1)).trans hw294_1), ((HB.out.cell (World.block_lt_of_cell? w _ hw294_2)).trans hw294_2), ((HB.out.cell (World.block_lt_of_cell? w _ hw294_3)).trans hw294_3), ((HB.out.cell (World.block_lt_of_cell? w _ hw295_0)).trans hw295_0), ((HB.out.cell (World.block_lt_of_cell? w _ hw295_1)).trans hw295_1), ((HB.out.cell (World.block_lt_of_cell? w _ hw295_2)).trans hw295_2), ((HB.out.cell (World.block_lt_of_cell? w _ hw295_3)).trans hw295_3), ((HB.out.cell (World.block_lt_of_cell? w _ hw296_0)).trans hw296_0), ((HB.out.cell (World.block_lt_of_cell? w _ hw296_1)).trans hw296_1), ((HB.out.cell (World.block_lt_of_cell? w _ hw296_2)).trans hw296_2), ((HB.out.cell (World.block_lt_of_cell? w _ hw296_3)).trans hw296_3), ((HB.out.cell (World.block_lt_of_cell? w _ hw297_0)).trans hw297_0), ((HB.out.cell (World.block_lt_of_cell? w _ hw297_1)).trans hw297_1), ((HB.out.cell (World.block_lt_of_cell? w _ hw297_2)).trans hw297_2), ((HB.out.cell (World.block_lt_of_cell? w _ hw297_3)).trans hw297_3), ((HB.out.cell (World.block_lt_of_cell? w _ hw299_0)).trans hw299_0), ((HB.out.cell (World.block_lt_of_cell? w _ hw299_1)).trans hw299_1), ((HB.out.cell (World.block_lt_of_cell? w _ hw299_2)).trans hw299_2), ((HB.out.cell (World.block_lt_of_cell? w _ hw299_3)).trans hw299_3), ((HB.out.cell (World.block_lt_of_cell? w _ hw300_0)).trans hw300_0), ((HB.out.cell (World.block_lt_of_cell? w _ hw300_1)).trans hw300_1), ((HB.out.cell (World.block_lt_of_cell? w _ hw300_2)).trans hw300_2), ((HB.out.cell (World.block_lt_of_cell? w _ hw300_3)).trans hw300_3), ((HB.out.cell (World.block_lt_of_cell? w _ hw302_0)).trans hw302_0), ((HB.out.cell (World.block_lt_of_cell? w _ hw302_1)).trans hw302_1), ((HB.out.cell (World.block_lt_of_cell? w _ hw302_2)).trans hw302_2), ((HB.out.cell (World.block_lt_of_cell? w _ hw302_3)).trans hw302_3), ((HB.out.cell (World.block_lt_of_cell? w _ hw303_0)).trans hw303_0), ((HB.out.cell (World.block_lt_of_cell? w _ hw303_1)).trans hw303_1), ((HB.out.cell (World.block_lt_of_cell? w _ hw303_2)).trans hw303_2), ((HB.out.cell (World.block_lt_of_cell? w _ hw303_3)).trans hw303_3)⟩ (fun hHeld => ?_)
           clear hK K
           refine norm_ (a' := ?_) ?_ ?_
           rotate_left
           ·show Act.put _ (some 39) _ = _
            simp only [Act.put, List.setIfInBounds_toArray, List.set_cons_zero, List.set_cons_succ, i64_w, i32_w]
            rfl
           refine pu 23 40 Bz24 rfl rfl (any_of HT_.out (by kernel_rfl)) ?_
           refine pu 24 41 Bz25 rfl rfl (any_of HT_.out (by kernel_rfl)) ?_
           refine pu 25 42 Bz26 rfl rfl (any_of HT_.out (by kernel_rfl)) ?_
           refine pu 26 43 Bz27 rfl rfl (any_of HT_.out (by kernel_rfl)) ?_
           refine pu 27 44 Bz28 rfl rfl (any_of HT_.out (by kernel_rfl)) ?_
           refine pu 28 45 Bz29 rfl rfl (any_of HT_.out (by kernel_rfl)) ?_
           refine pu 29 46 Bz30 rfl rfl (any_of HT_.out (by kernel_rfl)) ?_
           refine pu 31 48 Bz31 rfl rfl (any_of HT_.out (by kernel_rfl)) ?_
           refine pu 32 49 Bz32 rfl rfl (any_of HT_.out (by kernel_rfl)) ?_
           refine pu 33 50 Bz33 rfl rfl (any_of HT_.out (by kernel_rfl)) ?_
           refine pu 34 51 Bz34 rfl rfl (any_of HT_.out (by kernel_rfl)) ?_
           refine take_ (i := 30) (N := some 47) (v := ?_) (a' := ?_) Bz35 rfl rfl (take_ofW HT_.out HW_.out (by kernel_rfl)) (fun _ _ _ h => h) (Or.inl ⟨by rfl, ?_⟩) hHeld ?_ ?_; rotate_left; (focus rintro w' ⟨s0, s1, s2, s3, s4, s5, s6, s7, s8, s9, s10, s11, s12, s13, s14, s15, s16, s17, s18, s19, s20, s21, s22, s23, s24, s25, s26, s27, s28, s29, s30, s31⟩; go_simp; with_reducible rfl); rotate_left; (focus go_simp; rfl)
           refine take_ (i := 35) (N := some 52) (v := ?_) (a' := ?_) Bz36 rfl rfl (take_ofW HT_.out HW_.out (by kernel_rfl)) (fun _ _ _ h => h) (Or.inl ⟨by rfl, ?_⟩) hHeld ?_ ?_; rotate_left; (focus rintro w' ⟨s0, s1, s2, s3, s4, s5, s6, s7, s8, s9, s10, s11, s12, s13, s14, s15, s16, s17, s18, s19, s20, s21, s22, s23, s24, s25, s26, s27, s28, s29, s30, s31⟩; go_simp; with_reducible rfl); rotate_left; (focus go_simp; rfl)
           refine one_ (i := 36) (N := some 53) Bz37 rfl rfl (one_of HT_.out (by kernel_rfl)) (by decide) (fun K hK => ?_)
           refine goes_ Tryd.func16 (by kernel_rfl) rfl #[.slice A294_2 ((rd_T43 l0 x5_1).f2).length c294_2, .slice A295_2 ((rd_T43 l1 x5_1).f2).length c295_2] (by rfl) rfl rfl (by (try simp only [List.map_toArray, List.map_cons, List.map_nil]); first | done | rfl | (simp only [List.length_drop, List.length_take]; rfl)) ?_
           with_reducible refine (sidingref13_Same.calls k1 _ _ ((rd_T43 l0 x5_1).f2) _ _ ((rd_T43 l1 x5_1).f2) true _ ?side1 ?side2 ?side3 ?side4 A10.out).mono ?_
           (case side1 => repeat (first | exact (Kd.C_below HR299_2.out (by repeat (first | (with_reducible first | exact HB.out | apply below_alloc | apply pw_below_drewN | apply below_drew1) | exact HB.out))) | (with_reducible refine Kd.C_alloc ?_ _) | (with_reducible refine Kd.C_drewN ?_ _) | (with_reducible refine Kd.C_drew ?_)))
           (case side2 => exact HC299_2.out)
           (case side3 => repeat (first | exact (Kd.C_below HR300_2.out (by repeat (first | (with_reducible first | exact HB.out | apply below_alloc | apply pw_below_drewN | apply below_drew1) | exact HB.out))) | (with_reducible refine Kd.C_alloc ?_ _) | (with_reducible refine Kd.C_drewN ?_ _) | (with_reducible refine Kd.C_drew ?_)))
           (case side4 => exact HC300_2.out)
           rintro e w' ⟨rfl, ⟨nd, rfl⟩⟩
           refine ⟨_, rfl, ?_⟩
           refine hK.out _ _ ⟨((HB.out.cell (World.block_lt_of_cell? w _ hw294_0)).trans hw294_0), ((HB.out.cell (World.block_lt_of_cell? w _ hw294_1)).trans hw294_1), ((HB.out.cell (World.block_lt_of_cell? w _ hw294_2)).trans hw294_2), ((HB.out.cell (World.block_lt_of_cell? w _ hw294_3)).trans hw294_3), ((HB.out.cell (World.block_lt_of_cell? w _ hw295_0)).trans hw295_0), ((HB.out.cell (World.block_lt_of_cell? w _ hw295_1)).trans hw295_1), ((HB.out.cell (World.block_lt_of_cell? w _ hw295_2)).trans hw295_2), ((HB.out.cell (World.block_lt_of_cell? w _ hw295_3)).trans hw295_3), ((HB.out.cell (World.block_lt_of_cell? w _ hw296_0)).trans hw296_0), ((HB.out.cell (World.block_lt_of_cell? w _ hw296_1)).trans hw296_1), ((HB.out.cell (World.block_lt_of_cell? w _ hw296_2)).trans hw296_2), ((HB.out.cell (World.block_lt_of_cell? w _ hw296_3)).trans hw296_3), ((HB.out.cell (World.block_lt_of_cell? w _ hw297_0)).trans hw297_0), ((HB.out.cell (World.block_lt_of_cell? w _ hw297_1)).trans hw297_1), ((HB.out.cell (World.block_lt_of_cell? w _ hw297_2)).trans hw297_2), ((HB.out.cell (World.block_lt_of_cell? w _ hw297_3)).trans hw297_3), ((HB.out.cell (World.block_lt_of_cell? w _ hw299_0)).trans hw299_0), ((HB.out.cell (World.block_lt_of_cell? w _ hw299_1)).trans hw299_1), ((HB.out.cell (World.block_lt_of_cell? w _ hw299_2)).trans hw299_2), ((HB.out.cell (World.block_lt_of_cell? w _ hw299_3)).trans hw299_3), ((HB.out.cell (World.block_lt_of_cell? w _ hw300_0)).trans hw300_0), ((HB.out.cell (World.block_lt_of_cell? w _ hw300_1)).trans hw300_1), ((HB.out.cell (World.block_lt_of_cell? w _ hw300_2)).trans hw300_2), ((HB.out.cell (World.block_lt_of_cell? w _ hw300_3)).trans hw300_3), ((HB.out.cell (World.block_lt_of_cell? w _ hw302_0)).trans hw302_0), ((HB.out.cell (World.block_lt_of_cell? w _ hw302_1)).trans hw302_1), ((HB.out.cell (World.block_lt_of_cell? w _ hw302_2)).trans hw302_2), ((HB.out.cell (World.block_lt_of_cell? w _ hw302_3)).trans hw302_3), ((HB.out.cell (World.block_lt_of_cell? w _ hw303_0)).trans hw303_0), ((HB.out.cell (World.block_lt_of_cell? w _ hw303_1)).trans hw303_1), ((HB.out.cell (World.block_lt_of_cell? w _ hw303_2)).trans hw303_2), ((HB.out.cell (World.block_lt_of_cell? w _ hw303_3)).trans hw303_3)⟩ (fun hHeld => ?_)
           clear hK K
           refine norm_ (a' := ?_) ?_ ?_
           rotate_left
           ·show Act.put _ (some 53) _ = _
            simp only [Act.put, List.setIfInBounds_toArray, List.set_cons_zero, List.set_cons_succ, i64_w, i32_w]
            rfl
           refine pu 37 54 Bz38 rfl rfl (any_of HT_.out (by kernel_rfl)) ?_
           refine pu 38 55 Bz39 rfl rfl (any_of HT_.out (by kernel_rfl)) ?_
           refine pu 39 56 Bz40 rfl rfl (any_of HT_.out (by kernel_rfl)) ?_
           refine pu 40 57 Bz41 rfl rfl (any_of HT_.out (by kernel_rfl)) ?_
           refine pu 41 58 Bz42 rfl rfl (any_of HT_.out (by kernel_rfl)) ?_
           refine pu 42 59 Bz43 rfl rfl (any_of HT_.out (by kernel_rfl)) ?_
           refine pu 43 60 Bz44 rfl rfl (any_of HT_.out (by kernel_rfl)) ?_
           refine pu 45 62 Bz45 rfl rfl (any_of HT_.out (by kernel_rfl)) ?_
           refine pu 46 63 Bz46 rfl rfl (any_of HT_.out (by kernel_rfl)) ?_
           refine pu 47 64 Bz47 rfl rfl (any_of HT_.out (by kernel_rfl)) ?_
           refine pu 48 65 Bz48 rfl rfl (any_of HT_.out (by kernel_rfl)) ?_
           refine take_ (i := 44) (N := some 61) (v := ?_) (a' := ?_) Bz49 rfl rfl (take_ofW HT_.out HW_.out (by kernel_rfl)) (fun _ _ _ h => h) (Or.inl ⟨by rfl, ?_⟩) hHeld ?_ ?_; rotate_left; (focus rintro w' ⟨s0, s1, s2, s3, s4, s5, s6, s7, s8, s9, s10, s11, s12, s13, s14, s15, s16, s17, s18, s19, s20, s21, s22, s23, s24, s25, s26, s27, s28, s29, s30, s31⟩; go_simp; with_reducible rfl); rotate_left; (focus go_simp; rfl)
           refine take_ (i := 49) (N := some 66) (v := ?_) (a' := ?_) Bz50 rfl rfl (take_ofW HT_.out HW_.out (by kernel_rfl)) (fun _ _ _ h => h) (Or.inl ⟨by rfl, ?_⟩) hHeld ?_ ?_; rotate_left; (focus rintro w' ⟨s0, s1, s2, s3, s4, s5, s6, s7, s8, s9, s10, s11, s12, s13, s14, s15, s16, s17, s18, s19, s20, s21, s22, s23, s24, s25, s26, s27, s28, s29, s30, s31⟩; go_simp; with_reducible rfl); rotate_left; (focus go_simp; rfl)
           refine one_ (i := 50) (N := some 67) Bz51 rfl rfl (one_of HT_.out (by kernel_rfl)) (by decide) (fun K hK => ?_)
           refine goes_ Tryd.func16 (by kernel_rfl) rfl #[.slice A294_3 ((rd_T43 l0 x5_1).f3).length c294_3, .slice A295_3 ((rd_T43 l1 x5_1).f3).length c295_3] (by rfl) rfl rfl (by (try simp only [List.map_toArray, List.map_cons, List.map_nil]); first | done | rfl | (simp only [List.length_drop, List.length_take]; rfl)) ?_
           with_reducible refine (sidingref13_Same.calls k1 _ _ ((rd_T43 l0 x5_1).f3) _ _ ((rd_T43 l1 x5_1).f3) true _ ?side1 ?side2 ?side3 ?side4 A12.out).mono ?_
           (case side1 => repeat (first | exact (Kd.C_below HR302_3.out (by repeat (first | (with_reducible first | exact HB.out | apply below_alloc | apply pw_below_drewN | apply below_drew1) | exact HB.out))) | (with_reducible refine Kd.C_alloc ?_ _) | (with_reducible refine Kd.C_drewN ?_ _) | (with_reducible refine Kd.C_drew ?_)))
           (case side2 => exact HC302_3.out)
           (case side3 => repeat (first | exact (Kd.C_below HR303_3.out (by repeat (first | (with_reducible first | exact HB.out | apply below_alloc | apply pw_below_drewN | apply below_drew1) | exact HB.out))) | (with_reducible refine Kd.C_alloc ?_ _) | (with_reducible refine Kd.C_drewN ?_ _) | (with_reducible refine Kd.C_drew ?_)))
           (case side4 => exact HC303_3.out)
           rintro e w' ⟨rfl, ⟨nd, rfl⟩⟩
           refine ⟨_, rfl, ?_⟩
           refine hK.out _ _ ⟨((HB.out.cell (World.block_lt_of_cell? w _ hw294_0)).trans hw294_0), ((HB.out.cell (World.block_lt_of_cell? w _ hw294_1)).trans hw294_1), ((HB.out.cell (World.block_lt_of_cell? w _ hw294_2)).trans hw294_2), ((HB.out.cell (World.block_lt_of_cell? w _ hw294_3)).trans hw294_3), ((HB.out.cell (World.block_lt_of_cell? w _ hw295_0)).trans hw295_0), ((HB.out.cell (World.block_lt_of_cell? w _ hw295_1)).trans hw295_1), ((HB.out.cell (World.block_lt_of_cell? w _ hw295_2)).trans hw295_2), ((HB.out.cell (World.block_lt_of_cell? w _ hw295_3)).trans hw295_3), ((HB.out.cell (World.block_lt_of_cell? w _ hw296_0)).trans hw296_0), ((HB.out.cell (World.block_lt_of_cell? w _ hw296_1)).trans hw296_1), ((HB.out.cell (World.block_lt_of_cell? w _ hw296_2)).trans hw296_2), ((HB.out.cell (World.block_lt_of_cell? w _ hw296_3)).trans hw296_3), ((HB.out.cell (World.block_lt_of_cell? w _ hw297_0)).trans hw297_0), ((HB.out.cell (World.block_lt_of_cell? w _ hw297_1)).trans hw297_1), ((HB.out.cell (World.block_lt_of_cell? w _ hw297_2)).trans hw297_2), ((HB.out.cell (World.block_lt_of_cell? w _ hw297_3)).trans hw297_3), ((HB.out.cell (World.block_lt_of_cell? w _ hw299_0)).trans hw299_0), ((HB.out.cell (World.block_lt_of_cell? w _ hw299_1)).trans hw299_1), ((HB.out.cell (World.block_lt_of_cell? w _ hw299_2)).trans hw299_2), ((HB.out.cell (World.block_lt_of_cell? w _ hw299_3)).trans hw299_3), ((HB.out.cell (World.block_lt_of_cell? w _ hw300_0)).trans hw300_0), ((HB.out.cell (World.block_lt_of_cell? w _ hw300_1)).trans hw300_1), ((HB.out.cell (World.block_lt_of_cell? w _ hw300_2)).trans hw300_2), ((HB.out.cell (World.block_lt_of_cell? w _ hw300_3)).trans hw300_3), ((HB.out.cell (World.block_lt_of_cell? w _ hw302_0)).trans hw302_0), ((HB.out.cell (World.block_lt_of_cell? w _ hw302_1)).trans hw302_1), ((HB.out.cell (World.block_lt_of_cell? w _ hw302_2)).trans hw302_2), ((HB.out.cell (World.block_lt_of_cell? w _ hw302_3)).trans hw302_3), ((HB.out.cell (World.block_lt_of_cell? w _ hw303_0)).trans hw303_0), ((HB.out.cell (World.block_lt_of_cell? w _ hw303_1)).trans hw303_1), ((HB.out.cell (World.block_lt_of_cell? w _ hw303_2)).trans hw303_2), ((HB.out.cell (World.block_lt_of_cell? w _ hw303_3)).trans hw303_3)⟩ (fun hHeld => ?_)
           clear hK K
           refine norm_ (a' := ?_) ?_ ?_
           rotate_left
           ·show Act.put _ (some 67) _ = _
            simp only [Act.put, List.setIfInBounds_toArray, List.set_cons_zero, List.set_cons_succ, i64_w, i32_w]
            rfl
           refine pu 51 68 Bz52 rfl rfl (any_of HT_.out (by kernel_rfl)) ?_
           refine pu 52 69 Bz53 rfl rfl (any_of HT_.out (by kernel_rfl)) ?_
           refine done_ (done_of HT_.out (by kernel_rfl)) ?_
           try go_wp2
           go_roundg k1
           case measure => have := HK1.out; omega
           case rel => exact ⟨(wrap64 (x5_1 + 1)), (by first | rfl | (simp; done) | (simp [*]; done)), H', ⟨by have := HK1.out; omega⟩, ⟨by repeat (first | (with_reducible first | exact HB.out | apply below_alloc | apply pw_below_drewN | apply below_drew1) | exact HB.out)⟩⟩
          ·replace c13 := Bool.eq_false_iff.mpr c13
           subst c13
           have H1 : (some false) = some r := by rw [if_neg (show ¬ (false = true) by decide)] at H; exact H
           clear H
           have H := H1
           clear H1
           obtain rfl := Option.some.inj H
           try go_wp2
           have n0_ := Aside0.mk (below_drew1 HB.out)
           clear HB
           have HB := n0_
           clear n0_
           have p294 : 0 ≤ (x5_1 : Int) := of_decide_eq_true (by first | (with_reducible assumption) | assumption)
           have q294 : x5_1 < (l0.length : Int) := of_decide_eq_true (by first | (with_reducible assumption) | assumption)
           obtain ⟨ad294, A294_1, c294_1, A294_2, c294_2, A294_3, c294_3, e294, hx294_0, hx294_1, hx294_2, hx294_3, hl294_1, hi294_1, hl294_2, hi294_2, hl294_3, hi294_3⟩ := at_T43 HR0.out x5_1 p294 q294
           have hw294_3 := hx294_3
           have hw294_2 := hx294_2
           have hw294_1 := hx294_1
           have hw294_0 := hx294_0
           cases e294
           replace hx294_0 := (HB.out.cell (World.block_lt_of_cell? w _ hx294_0)).trans hx294_0
           replace hx294_1 := (HB.out.cell (World.block_lt_of_cell? w _ hx294_1)).trans hx294_1
           replace hx294_2 := (HB.out.cell (World.block_lt_of_cell? w _ hx294_2)).trans hx294_2
           replace hx294_3 := (HB.out.cell (World.block_lt_of_cell? w _ hx294_3)).trans hx294_3
           have HR294_1 := Aside0.mk hi294_1
           have HC294_1 := Aside0.mk hl294_1
           clear hi294_1 hl294_1
           have HR294_2 := Aside0.mk hi294_2
           have HC294_2 := Aside0.mk hl294_2
           clear hi294_2 hl294_2
           have HR294_3 := Aside0.mk hi294_3
           have HC294_3 := Aside0.mk hl294_3
           clear hi294_3 hl294_3
           replace p294 := eq_true p294
           replace q294 := eq_true q294
           have p295 : 0 ≤ (x5_1 : Int) := of_decide_eq_true (by first | (with_reducible assumption) | assumption)
           have q295 : x5_1 < (l1.length : Int) := of_decide_eq_true (by first | (with_reducible assumption) | assumption)
           obtain ⟨ad295, A295_1, c295_1, A295_2, c295_2, A295_3, c295_3, e295, hx295_0, hx295_1, hx295_2, hx295_3, hl295_1, hi295_1, hl295_2, hi295_2, hl295_3, hi295_3⟩ := at_T43 HR1.out x5_1 p295 q295
           have hw295_3 := hx295_3
           have hw295_2 := hx295_2
           have hw295_1 := hx295_1
           have hw295_0 := hx295_0
           cases e295
           replace hx295_0 := (HB.out.cell (World.block_lt_of_cell? w _ hx295_0)).trans hx295_0
           replace hx295_1 := (HB.out.cell (World.block_lt_of_cell? w _ hx295_1)).trans hx295_1
           replace hx295_2 := (HB.out.cell (World.block_lt_of_cell? w _ hx295_2)).trans hx295_2
           replace hx295_3 := (HB.out.cell (World.block_lt_of_cell? w _ hx295_3)).trans hx295_3
           have HR295_1 := Aside0.mk hi295_1
           have HC295_1 := Aside0.mk hl295_1
           clear hi295_1 hl295_1
           have HR295_2 := Aside0.mk hi295_2
           have HC295_2 := Aside0.mk hl295_2
           clear hi295_2 hl295_2
           have HR295_3 := Aside0.mk hi295_3
           have HC295_3 := Aside0.mk hl295_3
           clear hi295_3 hl295_3
           replace p295 := eq_true p295
           replace q295 := eq_true q295
           have p296 : 0 ≤ (x5_1 : Int) := of_decide_eq_true (by first | (with_reducible assumption) | assumption)
           have q296 : x5_1 < (l0.length : Int) := of_decide_eq_true (by first | (with_reducible assumption) | assumption)
           obtain ⟨ad296, A296_1, c296_1, A296_2, c296_2, A296_3, c296_3, e296, hx296_0, hx296_1, hx296_2, hx296_3, hl296_1, hi296_1, hl296_2, hi296_2, hl296_3, hi296_3⟩ := at_T43 HR0.out x5_1 p296 q296
           have hw296_3 := hx296_3
           have hw296_2 := hx296_2
           have hw296_1 := hx296_1
           have hw296_0 := hx296_0
           obtain rfl : ad294 = ad296 := (by injection e296)
           replace hx296_0 := (HB.out.cell (World.block_lt_of_cell? w _ hx296_0)).trans hx296_0
           replace hx296_1 := (HB.out.cell (World.block_lt_of_cell? w _ hx296_1)).trans hx296_1
           replace hx296_2 := (HB.out.cell (World.block_lt_of_cell? w _ hx296_2)).trans hx296_2
           replace hx296_3 := (HB.out.cell (World.block_lt_of_cell? w _ hx296_3)).trans hx296_3
           have HR296_1 := Aside0.mk hi296_1
           have HC296_1 := Aside0.mk hl296_1
           clear hi296_1 hl296_1
           have HR296_2 := Aside0.mk hi296_2
           have HC296_2 := Aside0.mk hl296_2
           clear hi296_2 hl296_2
           have HR296_3 := Aside0.mk hi296_3
           have HC296_3 := Aside0.mk hl296_3
           clear hi296_3 hl296_3
           replace p296 := eq_true p296
           replace q296 := eq_true q296
           have ea_ := Option.some.inj (hx294_1.symm.trans hx296_1)
           injection ea_ with ea_ en_ ec_
           subst ea_
           subst ec_
           clear en_
           have ea_ := Option.some.inj (hx294_2.symm.trans hx296_2)
           injection ea_ with ea_ en_ ec_
           subst ea_
           subst ec_
           clear en_
           have ea_ := Option.some.inj (hx294_3.symm.trans hx296_3)
           injection ea_ with ea_ en_ ec_
           subst ea_
           subst ec_
           clear en_
           have p297 : 0 ≤ (x5_1 : Int) := of_decide_eq_true (by first | (with_reducible assumption) | assumption)
           have q297 : x5_1 < (l1.length : Int) := of_decide_eq_true (by first | (with_reducible assumption) | assumption)
           obtain ⟨ad297, A297_1, c297_1, A297_2, c297_2, A297_3, c297_3, e297, hx297_0, hx297_1, hx297_2, hx297_3, hl297_1, hi297_1, hl297_2, hi297_2, hl297_3, hi297_3⟩ := at_T43 HR1.out x5_1 p297 q297
           have hw297_3 := hx297_3
           have hw297_2 := hx297_2
           have hw297_1 := hx297_1
           have hw297_0 := hx297_0
           obtain rfl : ad295 = ad297 := (by injection e297)
           replace hx297_0 := (HB.out.cell (World.block_lt_of_cell? w _ hx297_0)).trans hx297_0
           replace hx297_1 := (HB.out.cell (World.block_lt_of_cell? w _ hx297_1)).trans hx297_1
           replace hx297_2 := (HB.out.cell (World.block_lt_of_cell? w _ hx297_2)).trans hx297_2
           replace hx297_3 := (HB.out.cell (World.block_lt_of_cell? w _ hx297_3)).trans hx297_3
           have HR297_1 := Aside0.mk hi297_1
           have HC297_1 := Aside0.mk hl297_1
           clear hi297_1 hl297_1
           have HR297_2 := Aside0.mk hi297_2
           have HC297_2 := Aside0.mk hl297_2
           clear hi297_2 hl297_2
           have HR297_3 := Aside0.mk hi297_3
           have HC297_3 := Aside0.mk hl297_3
           clear hi297_3 hl297_3
           replace p297 := eq_true p297
           replace q297 := eq_true q297
           have ea_ := Option.some.inj (hx295_1.symm.trans hx297_1)
           injection ea_ with ea_ en_ ec_
           subst ea_
           subst ec_
           clear en_
           have ea_ := Option.some.inj (hx295_2.symm.trans hx297_2)
           injection ea_ with ea_ en_ ec_
           subst ea_
           subst ec_
           clear en_
           have ea_ := Option.some.inj (hx295_3.symm.trans hx297_3)
           injection ea_ with ea_ en_ ec_
           subst ea_
           subst ec_
           clear en_
           have p299 : 0 ≤ (x5_1 : Int) := of_decide_eq_true (by first | (with_reducible assumption) | assumption)
           have q299 : x5_1 < (l0.length : Int) := of_decide_eq_true (by first | (with_reducible assumption) | assumption)
           obtain ⟨ad299, A299_1, c299_1, A299_2, c299_2, A299_3, c299_3, e299, hx299_0, hx299_1, hx299_2, hx299_3, hl299_1, hi299_1, hl299_2, hi299_2, hl299_3, hi299_3⟩ := at_T43 HR0.out x5_1 p299 q299
           have hw299_3 := hx299_3
           have hw299_2 := hx299_2
           have hw299_1 := hx299_1
           have hw299_0 := hx299_0
           obtain rfl : ad294 = ad299 := (by injection e299)
           replace hx299_0 := (HB.out.cell (World.block_lt_of_cell? w _ hx299_0)).trans hx299_0
           replace hx299_1 := (HB.out.cell (World.block_lt_of_cell? w _ hx299_1)).trans hx299_1
           replace hx299_2 := (HB.out.cell (World.block_lt_of_cell? w _ hx299_2)).trans hx299_2
           replace hx299_3 := (HB.out.cell (World.block_lt_of_cell? w _ hx299_3)).trans hx299_3
           have HR299_1 := Aside0.mk hi299_1
           have HC299_1 := Aside0.mk hl299_1
           clear hi299_1 hl299_1
           have HR299_2 := Aside0.mk hi299_2
           have HC299_2 := Aside0.mk hl299_2
           clear hi299_2 hl299_2
           have HR299_3 := Aside0.mk hi299_3
           have HC299_3 := Aside0.mk hl299_3
           clear hi299_3 hl299_3
           replace p299 := eq_true p299
           replace q299 := eq_true q299
           have ea_ := Option.some.inj (hx294_1.symm.trans hx299_1)
           injection ea_ with ea_ en_ ec_
           subst ea_
           subst ec_
           clear en_
           have ea_ := Option.some.inj (hx294_2.symm.trans hx299_2)
           injection ea_ with ea_ en_ ec_
           subst ea_
           subst ec_
           clear en_
           have ea_ := Option.some.inj (hx294_3.symm.trans hx299_3)
           injection ea_ with ea_ en_ ec_
           subst ea_
           subst ec_
           clear en_
           have p300 : 0 ≤ (x5_1 : Int) := of_decide_eq_true (by first | (with_reducible assumption) | assumption)
           have q300 : x5_1 < (l1.length : Int) := of_decide_eq_true (by first | (with_reducible assumption) | assumption)
           obtain ⟨ad300, A300_1, c300_1, A300_2, c300_2, A300_3, c300_3, e300, hx300_0, hx300_1, hx300_2, hx300_3, hl300_1, hi300_1, hl300_2, hi300_2, hl300_3, hi300_3⟩ := at_T43 HR1.out x5_1 p300 q300
           have hw300_3 := hx300_3
           have hw300_2 := hx300_2
           have hw300_1 := hx300_1
           have hw300_0 := hx300_0
           obtain rfl : ad295 = ad300 := (by injection e300)
           replace hx300_0 := (HB.out.cell (World.block_lt_of_cell? w _ hx300_0)).trans hx300_0
           replace hx300_1 := (HB.out.cell (World.block_lt_of_cell? w _ hx300_1)).trans hx300_1
           replace hx300_2 := (HB.out.cell (World.block_lt_of_cell? w _ hx300_2)).trans hx300_2
           replace hx300_3 := (HB.out.cell (World.block_lt_of_cell? w _ hx300_3)).trans hx300_3
           have HR300_1 := Aside0.mk hi300_1
           have HC300_1 := Aside0.mk hl300_1
           clear hi300_1 hl300_1
           have HR300_2 := Aside0.mk hi300_2
           have HC300_2 := Aside0.mk hl300_2
           clear hi300_2 hl300_2
           have HR300_3 := Aside0.mk hi300_3
           have HC300_3 := Aside0.mk hl300_3
           clear hi300_3 hl300_3
           replace p300 := eq_true p300
           replace q300 := eq_true q300
           have ea_ := Option.some.inj (hx295_1.symm.trans hx300_1)
           injection ea_ with ea_ en_ ec_
           subst ea_
           subst ec_
           clear en_
           have ea_ := Option.some.inj (hx295_2.symm.trans hx300_2)
           injection ea_ with ea_ en_ ec_
           subst ea_
           subst ec_
           clear en_
           have ea_ := Option.some.inj (hx295_3.symm.trans hx300_3)
           injection ea_ with ea_ en_ ec_
           subst ea_
           subst ec_
           clear en_
           have p302 : 0 ≤ (x5_1 : Int) := of_decide_eq_true (by first | (with_reducible assumption) | assumption)
           have q302 : x5_1 < (l0.length : Int) := of_decide_eq_true (by first | (with_reducible assumption) | assumption)
           obtain ⟨ad302, A302_1, c302_1, A302_2, c302_2, A302_3, c302_3, e302, hx302_0, hx302_1, hx302_2, hx302_3, hl302_1, hi302_1, hl302_2, hi302_2, hl302_3, hi302_3⟩ := at_T43 HR0.out x5_1 p302 q302
           have hw302_3 := hx302_3
           have hw302_2 := hx302_2
           have hw302_1 := hx302_1
           have hw302_0 := hx302_0
           obtain rfl : ad294 = ad302 := (by injection e302)
           replace hx302_0 := (HB.out.cell (World.block_lt_of_cell? w _ hx302_0)).trans hx302_0
           replace hx302_1 := (HB.out.cell (World.block_lt_of_cell? w _ hx302_1)).trans hx302_1
           replace hx302_2 := (HB.out.cell (World.block_lt_of_cell? w _ hx302_2)).trans hx302_2
           replace hx302_3 := (HB.out.cell (World.block_lt_of_cell? w _ hx302_3)).trans hx302_3
           have HR302_1 := Aside0.mk hi302_1
           have HC302_1 := Aside0.mk hl302_1
           clear hi302_1 hl302_1
           have HR302_2 := Aside0.mk hi302_2
           have HC302_2 := Aside0.mk hl302_2
           clear hi302_2 hl302_2
           have HR302_3 := Aside0.mk hi302_3
           have HC302_3 := Aside0.mk hl302_3
           clear hi302_3 hl302_3
           replace p302 := eq_true p302
           replace q302 := eq_true q302
           have ea_ := Option.some.inj (hx294_1.symm.trans hx302_1)
           injection ea_ with ea_ en_ ec_
           subst ea_
           subst ec_
           clear en_
           have ea_ := Option.some.inj (hx294_2.symm.trans hx302_2)
           injection ea_ with ea_ en_ ec_
           subst ea_
           subst ec_
           clear en_
           have ea_ := Option.some.inj (hx294_3.symm.trans hx302_3)
           injection ea_ with ea_ en_ ec_
           subst ea_
           subst ec_
           clear en_
           have p303 : 0 ≤ (x5_1 : Int) := of_decide_eq_true (by first | (with_reducible assumption) | assumption)
           have q303 : x5_1 < (l1.length : Int) := of_decide_eq_true (by first | (with_reducible assumption) | assumption)
           obtain ⟨ad303, A303_1, c303_1, A303_2, c303_2, A303_3, c303_3, e303, hx303_0, hx303_1, hx303_2, hx303_3, hl303_1, hi303_1, hl303_2, hi303_2, hl303_3, hi303_3⟩ := at_T43 HR1.out x5_1 p303 q303
           have hw303_3 := hx303_3
           have hw303_2 := hx303_2
           have hw303_1 := hx303_1
           have hw303_0 := hx303_0
           obtain rfl : ad295 = ad303 := (by injection e303)
           replace hx303_0 := (HB.out.cell (World.block_lt_of_cell? w _ hx303_0)).trans hx303_0
           replace hx303_1 := (HB.out.cell (World.block_lt_of_cell? w _ hx303_1)).trans hx303_1
           replace hx303_2 := (HB.out.cell (World.block_lt_of_cell? w _ hx303_2)).trans hx303_2
           replace hx303_3 := (HB.out.cell (World.block_lt_of_cell? w _ hx303_3)).trans hx303_3
           have HR303_1 := Aside0.mk hi303_1
           have HC303_1 := Aside0.mk hl303_1
           clear hi303_1 hl303_1
           have HR303_2 := Aside0.mk hi303_2
           have HC303_2 := Aside0.mk hl303_2
           clear hi303_2 hl303_2
           have HR303_3 := Aside0.mk hi303_3
           have HC303_3 := Aside0.mk hl303_3
           clear hi303_3 hl303_3
           replace p303 := eq_true p303
           replace q303 := eq_true q303
           have ea_ := Option.some.inj (hx295_1.symm.trans hx303_1)
           injection ea_ with ea_ en_ ec_
           subst ea_
           subst ec_
           clear en_
           have ea_ := Option.some.inj (hx295_2.symm.trans hx303_2)
           injection ea_ with ea_ en_ ec_
           subst ea_
           subst ec_
           clear en_
           have ea_ := Option.some.inj (hx295_3.symm.trans hx303_3)
           injection ea_ with ea_ en_ ec_
           subst ea_
           subst ec_
           clear en_
           refine start_ (n := 53) (S := fun w' => w'.cell? (ad294.add ((x5_1).toNat * 4)) = some (.int .u8 ((rd_T43 l0 x5_1).f0)) ∧ w'.cell? ⟨(ad294.add ((x5_1).toNat * 4)).block, (ad294.add ((x5_1).toNat * 4)).off + 1, none⟩ = some (.slice A294_1 ((rd_T43 l0 x5_1).f1).length c294_1) ∧ w'.cell? ⟨(ad294.add ((x5_1).toNat * 4)).block, (ad294.add ((x5_1).toNat * 4)).off + 2, none⟩ = some (.slice A294_2 ((rd_T43 l0 x5_1).f2).length c294_2) ∧ w'.cell? ⟨(ad294.add ((x5_1).toNat * 4)).block, (ad294.add ((x5_1).toNat * 4)).off + 3, none⟩ = some (.slice A294_3 ((rd_T43 l0 x5_1).f3).length c294_3) ∧ w'.cell? (ad295.add ((x5_1).toNat * 4)) = some (.int .u8 ((rd_T43 l1 x5_1).f0)) ∧ w'.cell? ⟨(ad295.add ((x5_1).toNat * 4)).block, (ad295.add ((x5_1).toNat * 4)).off + 1, none⟩ = some (.slice A295_1 ((rd_T43 l1 x5_1).f1).length c295_1) ∧ w'.cell? ⟨(ad295.add ((x5_1).toNat * 4)).block, (ad295.add ((x5_1).toNat * 4)).off + 2, none⟩ = some (.slice A295_2 ((rd_T43 l1 x5_1).f2).length c295_2) ∧ w'.cell? ⟨(ad295.add ((x5_1).toNat * 4)).block, (ad295.add ((x5_1).toNat * 4)).off + 3, none⟩ = some (.slice A295_3 ((rd_T43 l1 x5_1).f3).length c295_3) ∧ w'.cell? (ad294.add ((x5_1).toNat * 4)) = some (.int .u8 ((rd_T43 l0 x5_1).f0)) ∧ w'.cell? ⟨(ad294.add ((x5_1).toNat * 4)).block, (ad294.add ((x5_1).toNat * 4)).off + 1, none⟩ = some (.slice A294_1 ((rd_T43 l0 x5_1).f1).length c294_1) ∧ w'.cell? ⟨(ad294.add ((x5_1).toNat * 4)).block, (ad294.add ((x5_1).toNat * 4)).off + 2, none⟩ = some (.slice A294_2 ((rd_T43 l0 x5_1).f2).length c294_2) ∧ w'.cell? ⟨(ad294.add ((x5_1).toNat * 4)).block, (ad294.add ((x5_1).toNat * 4)).off + 3, none⟩ = some (.slice A294_3 ((rd_T43 l0 x5_1).f3).length c294_3) ∧ w'.cell? (ad295.add ((x5_1).toNat * 4)) = some (.int .u8 ((rd_T43 l1 x5_1).f0)) ∧ w'.cell? ⟨(ad295.add ((x5_1).toNat * 4)).block, (ad295.add ((x5_1).toNat * 4)).off + 1, none⟩ = some (.slice A295_1 ((rd_T43 l1 x5_1).f1).length c295_1) ∧ w'.cell? ⟨(ad295.add ((x5_1).toNat * 4)).block, (ad295.add ((x5_1).toNat * 4)).off + 2, none⟩ = some (.slice A295_2 ((rd_T43 l1 x5_1).f2).length c295_2) ∧ w'.cell? ⟨(ad295.add ((x5_1).toNat * 4)).block, (ad295.add ((x5_1).toNat * 4)).off + 3, none⟩ = some (.slice A295_3 ((rd_T43 l1 x5_1).f3).length c295_3) ∧ w'.cell? (ad294.add ((x5_1).toNat * 4)) = some (.int .u8 ((rd_T43 l0 x5_1).f0)) ∧ w'.cell? ⟨(ad294.add ((x5_1).toNat * 4)).block, (ad294.add ((x5_1).toNat * 4)).off + 1, none⟩ = some (.slice A294_1 ((rd_T43 l0 x5_1).f1).length c294_1) ∧ w'.cell? ⟨(ad294.add ((x5_1).toNat * 4)).block, (ad294.add ((x5_1).toNat * 4)).off + 2, none⟩ = some (.slice A294_2 ((rd_T43 l0 x5_1).f2).length c294_2) ∧ w'.cell? ⟨(ad294.add ((x5_1).toNat * 4)).block, (ad294.add ((x5_1).toNat * 4)).off + 3, none⟩ = some (.slice A294_3 ((rd_T43 l0 x5_1).f3).length c294_3) ∧ w'.cell? (ad295.add ((x5_1).toNat * 4)) = some (.int .u8 ((rd_T43 l1 x5_1).f0)) ∧ w'.cell? ⟨(ad295.add ((x5_1).toNat * 4)).block, (ad295.add ((x5_1).toNat * 4)).off + 1, none⟩ = some (.slice A295_1 ((rd_T43 l1 x5_1).f1).length c295_1) ∧ w'.cell? ⟨(ad295.add ((x5_1).toNat * 4)).block, (ad295.add ((x5_1).toNat * 4)).off + 2, none⟩ = some (.slice A295_2 ((rd_T43 l1 x5_1).f2).length c295_2) ∧ w'.cell? ⟨(ad295.add ((x5_1).toNat * 4)).block, (ad295.add ((x5_1).toNat * 4)).off + 3, none⟩ = some (.slice A295_3 ((rd_T43 l1 x5_1).f3).length c295_3) ∧ w'.cell? (ad294.add ((x5_1).toNat * 4)) = some (.int .u8 ((rd_T43 l0 x5_1).f0)) ∧ w'.cell? ⟨(ad294.add ((x5_1).toNat * 4)).block, (ad294.add ((x5_1).toNat * 4)).off + 1, none⟩ = some (.slice A294_1 ((rd_T43 l0 x5_1).f1).length c294_1) ∧ w'.cell? ⟨(ad294.add ((x5_1).toNat * 4)).block, (ad294.add ((x5_1).toNat * 4)).off + 2, none⟩ = some (.slice A294_2 ((rd_T43 l0 x5_1).f2).length c294_2) ∧ w'.cell? ⟨(ad294.add ((x5_1).toNat * 4)).block, (ad294.add ((x5_1).toNat * 4)).off + 3, none⟩ = some (.slice A294_3 ((rd_T43 l0 x5_1).f3).length c294_3) ∧ w'.cell? (ad295.add ((x5_1).toNat * 4)) = some (.int .u8 ((rd_T43 l1 x5_1).f0)) ∧ w'.cell? ⟨(ad295.add ((x5_1).toNat * 4)).block, (ad295.add ((x5_1).toNat * 4)).off + 1, none⟩ = some (.slice A295_1 ((rd_T43 l1 x5_1).f1).length c295_1) ∧ w'.cell? ⟨(ad295.add ((x5_1).toNat * 4)).block, (ad295.add ((x5_1).toNat * 4)).off + 2, none⟩ = some (.slice A295_2 ((rd_T43 l1 x5_1).f2).length c295_2) ∧ w'.cell? ⟨(ad295.add ((x5_1).toNat * 4)).block, (ad295.add ((x5_1).toNat * 4)).off + 3, none⟩ = some (.slice A295_3 ((rd_T43 l1 x5_1).f3).length c295_3)) (ds := []) Bz0 (by kernel_rfl) rfl rfl ⟨((HB.out.cell (World.block_lt_of_cell? w _ hw294_0)).trans hw294_0), ((HB.out.cell (World.block_lt_of_cell? w _ hw294_1)).trans hw294_1), ((HB.out.cell (World.block_lt_of_cell? w _ hw294_2)).trans hw294_2), ((HB.out.cell (World.block_lt_of_cell? w _ hw294_3)).trans hw294_3), ((HB.out.cell (World.block_lt_of_cell? w _ hw295_0)).trans hw295_0), ((HB.out.cell (World.block_lt_of_cell? w _ hw295_1)).trans hw295_1), ((HB.out.cell (World.block_lt_of_cell? w _ hw295_2)).trans hw295_2), ((HB.out.cell (World.block_lt_of_cell? w _ hw295_3)).trans hw295_3), ((HB.out.cell (World.block_lt_of_cell? w _ hw296_0)).trans hw296_0), ((HB.out.cell (World.block_lt_of_cell? w _ hw296_1)).trans hw296_1), ((HB.out.cell (World.block_lt_of_cell? w _ hw296_2)).trans hw296_2), ((HB.out.cell (World.block_lt_of_cell? w _ hw296_3)).trans hw296_3), ((HB.out.cell (World.block_lt_of_cell? w _ hw297_0)).trans hw297_0), ((HB.out.cell (World.block_lt_of_cell? w _ hw297_1)).trans hw297_1), ((HB.out.cell (World.block_lt_of_cell? w _ hw297_2)).trans hw297_2), ((HB.out.cell (World.block_lt_of_cell? w _ hw297_3)).trans hw297_3), ((HB.out.cell (World.block_lt_of_cell? w _ hw299_0)).trans hw299_0), ((HB.out.cell (World.block_lt_of_cell? w _ hw299_1)).trans hw299_1), ((HB.out.cell (World.block_lt_of_cell? w _ hw299_2)).trans hw299_2), ((HB.out.cell (World.block_lt_of_cell? w _ hw299_3)).trans hw299_3), ((HB.out.cell (World.block_lt_of_cell? w _ hw300_0)).trans hw300_0), ((HB.out.cell (World.block_lt_of_cell? w _ hw300_1)).trans hw300_1), ((HB.out.cell (World.block_lt_of_cell? w _ hw300_2)).trans hw300_2), ((HB.out.cell (World.block_lt_of_cell? w _ hw300_3)).trans hw300_3), ((HB.out.cell (World.block_lt_of_cell? w _ hw302_0)).trans hw302_0), ((HB.out.cell (World.block_lt_of_cell? w _ hw302_1)).trans hw302_1), ((HB.out.cell (World.block_lt_of_cell? w _ hw302_2)).trans hw302_2), ((HB.out.cell (World.block_lt_of_cell? w _ hw302_3)).trans hw302_3), ((HB.out.cell (World.block_lt_of_cell? w _ hw303_0)).trans hw303_0), ((HB.out.cell (World.block_lt_of_cell? w _ hw303_1)).trans hw303_1), ((HB.out.cell (World.block_lt_of_cell? w _ hw303_2)).trans hw303_2), ((HB.out.cell (World.block_lt_of_cell? w _ hw303_3)).trans hw303_3)⟩ (fun hHeld => ?_); refine with_tabW sidingref18_Same.tab6 sidingref18_Same.bits6 (fun HT_ HW_ => ?_)
           generalize wr.drew = w15 at HB HR294_1 HR294_2 HR294_3 HR295_1 HR295_2 HR295_3 HR296_1 HR296_2 HR296_3 HR297_1 HR297_2 HR297_3 HR299_1 HR299_2 HR299_3 HR300_1 HR300_2 HR300_3 HR302_1 HR302_2 HR302_3 HR303_1 HR303_2 HR303_3 hx294_0 hx294_1 hx294_2 hx294_3 hx295_0 hx295_1 hx295_2 hx295_3 hx296_0 hx296_1 hx296_2 hx296_3 hx297_0 hx297_1 hx297_2 hx297_3 hx299_0 hx299_1 hx299_2 hx299_3 hx300_0 hx300_1 hx300_2 hx300_3 hx302_0 hx302_1 hx302_2 hx302_3 hx303_0 hx303_1 hx303_2 hx303_3 hHeld ⊢
           refine pu 0 17 Bz1 rfl rfl (any_of HT_.out (by kernel_rfl)) ?_
           refine pu 1 18 Bz2 rfl rfl (any_of HT_.out (by kernel_rfl)) ?_
           refine pu 2 19 Bz3 rfl rfl (any_of HT_.out (by kernel_rfl)) ?_
           refine pu 3 20 Bz4 rfl rfl (any_of HT_.out (by kernel_rfl)) ?_
           refine pu 5 22 Bz5 rfl rfl (any_of HT_.out (by kernel_rfl)) ?_
           refine pu 6 23 Bz6 rfl rfl (any_of HT_.out (by kernel_rfl)) ?_
           refine pu 7 24 Bz7 rfl rfl (any_of HT_.out (by kernel_rfl)) ?_
           refine pu 8 25 Bz8 rfl rfl (any_of HT_.out (by kernel_rfl)) ?_
           refine take_ (i := 4) (N := some 21) (v := ?_) (a' := ?_) Bz9 rfl rfl (take_ofW HT_.out HW_.out (by kernel_rfl)) (fun _ _ _ h => h) (Or.inl ⟨by rfl, ?_⟩) hHeld ?_ ?_; rotate_left; (focus rintro w' ⟨s0, s1, s2, s3, s4, s5, s6, s7, s8, s9, s10, s11, s12, s13, s14, s15, s16, s17, s18, s19, s20, s21, s22, s23, s24, s25, s26, s27, s28, s29, s30, s31⟩; go_simp; with_reducible rfl); rotate_left; (focus go_simp; rfl)
           refine take_ (i := 9) (N := some 26) (v := ?_) (a' := ?_) Bz10 rfl rfl (take_ofW HT_.out HW_.out (by kernel_rfl)) (fun _ _ _ h => h) (Or.inl ⟨by rfl, ?_⟩) hHeld ?_ ?_; rotate_left; (focus rintro w' ⟨s0, s1, s2, s3, s4, s5, s6, s7, s8, s9, s10, s11, s12, s13, s14, s15, s16, s17, s18, s19, s20, s21, s22, s23, s24, s25, s26, s27, s28, s29, s30, s31⟩; go_simp; with_reducible rfl); rotate_left; (focus go_simp; rfl)
           refine pu 10 27 Bz11 rfl rfl (any_of HT_.out (by kernel_rfl)) ?_
           refine pu 11 28 Bz12 rfl rfl (any_of HT_.out (by kernel_rfl)) ?_
           refine pu 12 29 Bz13 rfl rfl (any_of HT_.out (by kernel_rfl)) ?_
           refine pu 13 30 Bz14 rfl rfl (any_of HT_.out (by kernel_rfl)) ?_
           refine pu 14 31 Bz15 rfl rfl (any_of HT_.out (by kernel_rfl)) ?_
           refine pu 15 32 Bz16 rfl rfl (any_of HT_.out (by kernel_rfl)) ?_
           refine pu 17 34 Bz17 rfl rfl (any_of HT_.out (by kernel_rfl)) ?_
           refine pu 18 35 Bz18 rfl rfl (any_of HT_.out (by kernel_rfl)) ?_
           refine pu 19 36 Bz19 rfl rfl (any_of HT_.out (by kernel_rfl)) ?_
           refine pu 20 37 Bz20 rfl rfl (any_of HT_.out (by kernel_rfl)) ?_
           refine take_ (i := 16) (N := some 33) (v := ?_) (a' := ?_) Bz21 rfl rfl (take_ofW HT_.out HW_.out (by kernel_rfl)) (fun _ _ _ h => h) (Or.inl ⟨by rfl, ?_⟩) hHeld ?_ ?_; rotate_left; (focus rintro w' ⟨s0, s1, s2, s3, s4, s5, s6, s7, s8, s9, s10, s11, s12, s13, s14, s15, s16, s17, s18, s19, s20, s21, s22, s23, s24, s25, s26, s27, s28, s29, s30, s31⟩; go_simp; with_reducible rfl); rotate_left; (focus go_simp; rfl)
           refine take_ (i := 21) (N := some 38) (v := ?_) (a' := ?_) Bz22 rfl rfl (take_ofW HT_.out HW_.out (by kernel_rfl)) (fun _ _ _ h => h) (Or.inl ⟨by rfl, ?_⟩) hHeld ?_ ?_; rotate_left; (focus rintro w' ⟨s0, s1, s2, s3, s4, s5, s6, s7, s8, s9, s10, s11, s12, s13, s14, s15, s16, s17, s18, s19, s20, s21, s22, s23, s24, s25, s26, s27, s28, s29, s30, s31⟩; go_simp; with_reducible rfl); rotate_left; (focus go_simp; rfl)
           refine one_ (i := 22) (N := some 39) Bz23 rfl rfl (one_of HT_.out (by kernel_rfl)) (by decide) (fun K hK => ?_)
           refine goes_ Tryd.func16 (by kernel_rfl) rfl #[.slice A294_1 ((rd_T43 l0 x5_1).f1).length c294_1, .slice A295_1 ((rd_T43 l1 x5_1).f1).length c295_1] (by rfl) rfl rfl (by (try simp only [List.map_toArray, List.map_cons, List.map_nil]); first | done | rfl | (simp only [List.length_drop, List.length_take]; rfl)) ?_
           with_reducible refine (sidingref13_Same.calls k1 _ _ ((rd_T43 l0 x5_1).f1) _ _ ((rd_T43 l1 x5_1).f1) true _ ?side1 ?side2 ?side3 ?side4 A8.out).mono ?_
           (case side1 => repeat (first | exact (Kd.C_below HR296_1.out HB.out) | (with_reducible refine Kd.C_alloc ?_ _) | (with_reducible refine Kd.C_drewN ?_ _) | (with_reducible refine Kd.C_drew ?_)))
           (case side2 => exact HC296_1.out)
           (case side3 => repeat (first | exact (Kd.C_below HR297_1.out HB.out) | (with_reducible refine Kd.C_alloc ?_ _) | (with_reducible refine Kd.C_drewN ?_ _) | (with_reducible refine Kd.C_drew ?_)))
           (case side4 => exact HC297_1.out)
           rintro e w' ⟨rfl, ⟨nd, rfl⟩⟩
           refine ⟨_, rfl, ?_⟩
           refine hK.out _ _ ⟨((HB.out.cell (World.block_lt_of_cell? w _ hw294_0)).trans hw294_0), ((HB.out.cell (World.block_lt_of_cell? w _ hw294_1)).trans hw294_1), ((HB.out.cell (World.block_lt_of_cell? w _ hw294_2)).trans hw294_2), ((HB.out.cell (World.block_lt_of_cell? w _ hw294_3)).trans hw294_3), ((HB.out.cell (World.block_lt_of_cell? w _ hw295_0)).trans hw295_0), ((HB.out.cell (World.block_lt_of_cell? w _ hw295_1)).trans hw295_1), ((HB.out.cell (World.block_lt_of_cell? w _ hw295_2)).trans hw295_2), ((HB.out.cell (World.block_lt_of_cell? w _ hw295_3)).trans hw295_3), ((HB.out.cell (World.block_lt_of_cell? w _ hw296_0)).trans hw296_0), ((HB.out.cell (World.block_lt_of_cell? w _ hw296_1)).trans hw296_1), ((HB.out.cell (World.block_lt_of_cell? w _ hw296_2)).trans hw296_2), ((HB.out.cell (World.block_lt_of_cell? w _ hw296_3)).trans hw296_3), ((HB.out.cell (World.block_lt_of_cell? w _ hw297_0)).trans hw297_0), ((HB.out.cell (World.block_lt_of_cell? w _ hw297_1)).trans hw297_1), ((HB.out.cell (World.block_lt_of_cell? w _ hw297_2)).trans hw297_2), ((HB.out.cell (World.block_lt_of_cell? w _ hw297_3)).trans hw297_3), ((HB.out.cell (World.block_lt_of_cell? w _ hw299_0)).trans hw299_0), ((HB.out.cell (World.block_lt_of_cell? w _ hw299_1)).trans hw299_1), ((HB.out.cell (World.block_lt_of_cell? w _ hw299_2)).trans hw299_2), ((HB.out.cell (World.block_lt_of_cell? w _ hw299_3)).trans hw299_3), ((HB.out.cell (World.block_lt_of_cell? w _ hw300_0)).trans hw300_0), ((HB.out.cell (World.block_lt_of_cell? w _ hw300_1)).trans hw300_1), ((HB.out.cell (World.block_lt_of_cell? w _ hw300_2)).trans hw300_2), ((HB.out.cell (World.block_lt_of_cell? w _ hw300_3)).trans hw300_3), ((HB.out.cell (World.block_lt_of_cell? w _ hw302_0)).trans hw302_0), ((HB.out.cell (World.block_lt_of_cell? w _ hw302_1)).trans hw302_1), ((HB.out.cell (World.block_lt_of_cell? w _ hw302_2)).trans hw302_2), ((HB.out.cell (World.block_lt_of_cell? w _ hw302_3)).trans hw302_3), ((HB.out.cell (World.block_lt_of_cell? w _ hw303_0)).trans hw303_0), ((HB.out.cell (World.block_lt_of_cell? w _ hw303_1)).trans hw303_1), ((HB.out.cell (World.block_lt_of_cell? w _ hw303_2)).trans hw303_2), ((HB.out.cell (World.block_lt_of_cell? w _ hw303_3)).trans hw303_3)⟩ (fun hHeld => ?_)
           clear hK K
           refine norm_ (a' := ?_) ?_ ?_
           rotate_left
           ·show Act.put _ (some 39) _ = _
            simp only [Act.put, List.setIfInBounds_toArray, List.set_cons_zero, List.set_cons_succ, i64_w, i32_w]
            rfl
           refine pu 23 40 Bz24 rfl rfl (any_of HT_.out (by kernel_rfl)) ?_
           refine pu 24 41 Bz25 rfl rfl (any_of HT_.out (by kernel_rfl)) ?_
           refine pu 25 42 Bz26 rfl rfl (any_of HT_.out (by kernel_rfl)) ?_
           refine pu 26 43 Bz27 rfl rfl (any_of HT_.out (by kernel_rfl)) ?_
           refine pu 27 44 Bz28 rfl rfl (any_of HT_.out (by kernel_rfl)) ?_
           refine pu 28 45 Bz29 rfl rfl (any_of HT_.out (by kernel_rfl)) ?_
           refine pu 29 46 Bz30 rfl rfl (any_of HT_.out (by kernel_rfl)) ?_
           refine pu 31 48 Bz31 rfl rfl (any_of HT_.out (by kernel_rfl)) ?_
           refine pu 32 49 Bz32 rfl rfl (any_of HT_.out (by kernel_rfl)) ?_
           refine pu 33 50 Bz33 rfl rfl (any_of HT_.out (by kernel_rfl)) ?_
           refine pu 34 51 Bz34 rfl rfl (any_of HT_.out (by kernel_rfl)) ?_
           refine take_ (i := 30) (N := some 47) (v := ?_) (a' := ?_) Bz35 rfl rfl (take_ofW HT_.out HW_.out (by kernel_rfl)) (fun _ _ _ h => h) (Or.inl ⟨by rfl, ?_⟩) hHeld ?_ ?_; rotate_left; (focus rintro w' ⟨s0, s1, s2, s3, s4, s5, s6, s7, s8, s9, s10, s11, s12, s13, s14, s15, s16, s17, s18, s19, s20, s21, s22, s23, s24, s25, s26, s27, s28, s29, s30, s31⟩; go_simp; with_reducible rfl); rotate_left; (focus go_simp; rfl)
           refine take_ (i := 35) (N := some 52) (v := ?_) (a' := ?_) Bz36 rfl rfl (take_ofW HT_.out HW_.out (by kernel_rfl)) (fun _ _ _ h => h) (Or.inl ⟨by rfl, ?_⟩) hHeld ?_ ?_; rotate_left; (focus rintro w' ⟨s0, s1, s2, s3, s4, s5, s6, s7, s8, s9, s10, s11, s12, s13, s14, s15, s16, s17, s18, s19, s20, s21, s22, s23, s24, s25, s26, s27, s28, s29, s30, s31⟩; go_simp; with_reducible rfl); rotate_left; (focus go_simp; rfl)
           refine one_ (i := 36) (N := some 53) Bz37 rfl rfl (one_of HT_.out (by kernel_rfl)) (by decide) (fun K hK => ?_)
           refine goes_ Tryd.func16 (by kernel_rfl) rfl #[.slice A294_2 ((rd_T43 l0 x5_1).f2).length c294_2, .slice A295_2 ((rd_T43 l1 x5_1).f2).length c295_2] (by rfl) rfl rfl (by (try simp only [List.map_toArray, List.map_cons, List.map_nil]); first | done | rfl | (simp only [List.length_drop, List.length_take]; rfl)) ?_
           with_reducible refine (sidingref13_Same.calls k1 _ _ ((rd_T43 l0 x5_1).f2) _ _ ((rd_T43 l1 x5_1).f2) true _ ?side1 ?side2 ?side3 ?side4 A10.out).mono ?_
           (case side1 => repeat (first | exact (Kd.C_below HR299_2.out (by repeat (first | (with_reducible first | exact HB.out | apply below_alloc | apply pw_below_drewN | apply below_drew1) | exact HB.out))) | (with_reducible refine Kd.C_alloc ?_ _) | (with_reducible refine Kd.C_drewN ?_ _) | (with_reducible refine Kd.C_drew ?_)))
           (case side2 => exact HC299_2.out)
           (case side3 => repeat (first | exact (Kd.C_below HR300_2.out (by repeat (first | (with_reducible first | exact HB.out | apply below_alloc | apply pw_below_drewN | apply below_drew1) | exact HB.out))) | (with_reducible refine Kd.C_alloc ?_ _) | (with_reducible refine Kd.C_drewN ?_ _) | (with_reducible refine Kd.C_drew ?_)))
           (case side4 => exact HC300_2.out)
           rintro e w' ⟨rfl, ⟨nd, rfl⟩⟩
           refine ⟨_, rfl, ?_⟩
           refine hK.out _ _ ⟨((HB.out.cell (World.block_lt_of_cell? w _ hw294_0)).trans hw294_0), ((HB.out.cell (World.block_lt_of_cell? w _ hw294_1)).trans hw294_1), ((HB.out.cell (World.block_lt_of_cell? w _ hw294_2)).trans hw294_2), ((HB.out.cell (World.block_lt_of_cell? w _ hw294_3)).trans hw294_3), ((HB.out.cell (World.block_lt_of_cell? w _ hw295_0)).trans hw295_0), ((HB.out.cell (World.block_lt_of_cell? w _ hw295_1)).trans hw295_1), ((HB.out.cell (World.block_lt_of_cell? w _ hw295_2)).trans hw295_2), ((HB.out.cell (World.block_lt_of_cell? w _ hw295_3)).trans hw295_3), ((HB.out.cell (World.block_lt_of_cell? w _ hw296_0)).trans hw296_0), ((HB.out.cell (World.block_lt_of_cell? w _ hw296_1)).trans hw296_1), ((HB.out.cell (World.block_lt_of_cell? w _ hw296_2)).trans hw296_2), ((HB.out.cell (World.block_lt_of_cell? w _ hw296_3)).trans hw296_3), ((HB.out.cell (World.block_lt_of_cell? w _ hw297_0)).trans hw297_0), ((HB.out.cell (World.block_lt_of_cell? w _ hw297_1)).trans hw297_1), ((HB.out.cell (World.block_lt_of_cell? w _ hw297_2)).trans hw297_2), ((HB.out.cell (World.block_lt_of_cell? w _ hw297_3)).trans hw297_3), ((HB.out.cell (World.block_lt_of_cell? w _ hw299_0)).trans hw299_0), ((HB.out.cell (World.block_lt_of_cell? w _ hw299_1)).trans hw299_1), ((HB.out.cell (World.block_lt_of_cell? w _ hw299_2)).trans hw299_2), ((HB.out.cell (World.block_lt_of_cell? w _ hw299_3)).trans hw299_3), ((HB.out.cell (World.block_lt_of_cell? w _ hw300_0)).trans hw300_0), ((HB.out.cell (World.block_lt_of_cell? w _ hw300_1)).trans hw300_1), ((HB.out.cell (World.block_lt_of_cell? w _ hw300_2)).trans hw300_2), ((HB.out.cell (World.block_lt_of_cell? w _ hw300_3)).trans hw300_3), ((HB.out.cell (World.block_lt_of_cell? w _ hw302_0)).trans hw302_0), ((HB.out.cell (World.block_lt_of_cell? w _ hw302_1)).trans hw302_1), ((HB.out.cell (World.block_lt_of_cell? w _ hw302_2)).trans hw302_2), ((HB.out.cell (World.block_lt_of_cell? w _ hw302_3)).trans hw302_3), ((HB.out.cell (World.block_lt_of_cell? w _ hw303_0)).trans hw303_0), ((HB.out.cell (World.block_lt_of_cell? w _ hw303_1)).trans hw303_1), ((HB.out.cell (World.block_lt_of_cell? w _ hw303_2)).trans hw303_2), ((HB.out.cell (World.block_lt_of_cell? w _ hw303_3)).trans hw303_3)⟩ (fun hHeld => ?_)
           clear hK K
           refine norm_ (a' := ?_) ?_ ?_
           rotate_left
           ·show Act.put _ (some 53) _ = _
            simp only [Act.put, List.setIfInBounds_toArray, List.set_cons_zero, List.set_cons_succ, i64_w, i32_w]
            rfl
           refine pu 37 54 Bz38 rfl rfl (any_of HT_.out (by kernel_rfl)) ?_
           refine pu 38 55 Bz39 rfl rfl (any_of HT_.out (by kernel_rfl)) ?_
           refine pu 39 56 Bz40 rfl rfl (any_of HT_.out (by kernel_rfl)) ?_
           refine pu 40 57 Bz41 rfl rfl (any_of HT_.out (by kernel_rfl)) ?_
           refine pu 41 58 Bz42 rfl rfl (any_of HT_.out (by kernel_rfl)) ?_
           refine pu 42 59 Bz43 rfl rfl (any_of HT_.out (by kernel_rfl)) ?_
           refine pu 43 60 Bz44 rfl rfl (any_of HT_.out (by kernel_rfl)) ?_
           refine pu 45 62 Bz45 rfl rfl (any_of HT_.out (by kernel_rfl)) ?_
           refine pu 46 63 Bz46 rfl rfl (any_of HT_.out (by kernel_rfl)) ?_
           refine pu 47 64 Bz47 rfl rfl (any_of HT_.out (by kernel_rfl)) ?_
           refine pu 48 65 Bz48 rfl rfl (any_of HT_.out (by kernel_rfl)) ?_
           refine take_ (i := 44) (N := some 61) (v := ?_) (a' := ?_) Bz49 rfl rfl (take_ofW HT_.out HW_.out (by kernel_rfl)) (fun _ _ _ h => h) (Or.inl ⟨by rfl, ?_⟩) hHeld ?_ ?_; rotate_left; (focus rintro w' ⟨s0, s1, s2, s3, s4, s5, s6, s7, s8, s9, s10, s11, s12, s13, s14, s15, s16, s17, s18, s19, s20, s21, s22, s23, s24, s25, s26, s27, s28, s29, s30, s31⟩; go_simp; with_reducible rfl); rotate_left; (focus go_simp; rfl)
           refine take_ (i := 49) (N := some 66) (v := ?_) (a' := ?_) Bz50 rfl rfl (take_ofW HT_.out HW_.out (by kernel_rfl)) (fun _ _ _ h => h) (Or.inl ⟨by rfl, ?_⟩) hHeld ?_ ?_; rotate_left; (focus rintro w' ⟨s0, s1, s2, s3, s4, s5, s6, s7, s8, s9, s10, s11, s12, s13, s14, s15, s16, s17, s18, s19, s20, s21, s22, s23, s24, s25, s26, s27, s28, s29, s30, s31⟩; go_simp; with_reducible rfl); rotate_left; (focus go_simp; rfl)
           refine one_ (i := 50) (N := some 67) Bz51 rfl rfl (one_of HT_.out (by kernel_rfl)) (by decide) (fun K hK => ?_)
           refine goes_ Tryd.func16 (by kernel_rfl) rfl #[.slice A294_3 ((rd_T43 l0 x5_1).f3).length c294_3, .slice A295_3 ((rd_T43 l1 x5_1).f3).length c295_3] (by rfl) rfl rfl (by (try simp only [List.map_toArray, List.map_cons, List.map_nil]); first | done | rfl | (simp only [List.length_drop, List.length_take]; rfl)) ?_
           with_reducible refine (sidingref13_Same.calls k1 _ _ ((rd_T43 l0 x5_1).f3) _ _ ((rd_T43 l1 x5_1).f3) false _ ?side1 ?side2 ?side3 ?side4 A12.out).mono ?_
           (case side1 => repeat (first | exact (Kd.C_below HR302_3.out (by repeat (first | (with_reducible first | exact HB.out | apply below_alloc | apply pw_below_drewN | apply below_drew1) | exact HB.out))) | (with_reducible refine Kd.C_alloc ?_ _) | (with_reducible refine Kd.C_drewN ?_ _) | (with_reducible refine Kd.C_drew ?_)))
           (case side2 => exact HC302_3.out)
           (case side3 => repeat (first | exact (Kd.C_below HR303_3.out (by repeat (first | (with_reducible first | exact HB.out | apply below_alloc | apply pw_below_drewN | apply below_drew1) | exact HB.out))) | (with_reducible refine Kd.C_alloc ?_ _) | (with_reducible refine Kd.C_drewN ?_ _) | (with_reducible refine Kd.C_drew ?_)))
           (case side4 => exact HC303_3.out)
           rintro e w' ⟨rfl, ⟨nd, rfl⟩⟩
           refine ⟨_, rfl, ?_⟩
           refine hK.out _ _ ⟨((HB.out.cell (World.block_lt_of_cell? w _ hw294_0)).trans hw294_0), ((HB.out.cell (World.block_lt_of_cell? w _ hw294_1)).trans hw294_1), ((HB.out.cell (World.block_lt_of_cell? w _ hw294_2)).trans hw294_2), ((HB.out.cell (World.block_lt_of_cell? w _ hw294_3)).trans hw294_3), ((HB.out.cell (World.block_lt_of_cell? w _ hw295_0)).trans hw295_0), ((HB.out.cell (World.block_lt_of_cell? w _ hw295_1)).trans hw295_1), ((HB.out.cell (World.block_lt_of_cell? w _ hw295_2)).trans hw295_2), ((HB.out.cell (World.block_lt_of_cell? w _ hw295_3)).trans hw295_3), ((HB.out.cell (World.block_lt_of_cell? w _ hw296_0)).trans hw296_0), ((HB.out.cell (World.block_lt_of_cell? w _ hw296_1)).trans hw296_1), ((HB.out.cell (World.block_lt_of_cell? w _ hw296_2)).trans hw296_2), ((HB.out.cell (World.block_lt_of_cell? w _ hw296_3)).trans hw296_3), ((HB.out.cell (World.block_lt_of_cell? w _ hw297_0)).trans hw297_0), ((HB.out.cell (World.block_lt_of_cell? w _ hw297_1)).trans hw297_1), ((HB.out.cell (World.block_lt_of_cell? w _ hw297_2)).trans hw297_2), ((HB.out.cell (World.block_lt_of_cell? w _ hw297_3)).trans hw297_3), ((HB.out.cell (World.block_lt_of_cell? w _ hw299_0)).trans hw299_0), ((HB.out.cell (World.block_lt_of_cell? w _ hw299_1)).trans hw299_1), ((HB.out.cell (World.block_lt_of_cell? w _ hw299_2)).trans hw299_2), ((HB.out.cell (World.block_lt_of_cell? w _ hw299_3)).trans hw299_3), ((HB.out.cell (World.block_lt_of_cell? w _ hw300_0)).trans hw300_0), ((HB.out.cell (World.block_lt_of_cell? w _ hw300_1)).trans hw300_1), ((HB.out.cell (World.block_lt_of_cell? w _ hw300_2)).trans hw300_2), ((HB.out.cell (World.block_lt_of_cell? w _ hw300_3)).trans hw300_3), ((HB.out.cell (World.block_lt_of_cell? w _ hw302_0)).trans hw302_0), ((HB.out.cell (World.block_lt_of_cell? w _ hw302_1)).trans hw302_1), ((HB.out.cell (World.block_lt_of_cell? w _ hw302_2)).trans hw302_2), ((HB.out.cell (World.block_lt_of_cell? w _ hw302_3)).trans hw302_3), ((HB.out.cell (World.block_lt_of_cell? w _ hw303_0)).trans hw303_0), ((HB.out.cell (World.block_lt_of_cell? w _ hw303_1)).trans hw303_1), ((HB.out.cell (World.block_lt_of_cell? w _ hw303_2)).trans hw303_2), ((HB.out.cell (World.block_lt_of_cell? w _ hw303_3)).trans hw303_3)⟩ (fun hHeld => ?_)
           clear hK K
           refine norm_ (a' := ?_) ?_ ?_
           rotate_left
           ·show Act.put _ (some 67) _ = _
            simp only [Act.put, List.setIfInBounds_toArray, List.set_cons_zero, List.set_cons_succ, i64_w, i32_w]
            rfl
           refine pu 51 68 Bz52 rfl rfl (any_of HT_.out (by kernel_rfl)) ?_
           refine pu 52 69 Bz53 rfl rfl (any_of HT_.out (by kernel_rfl)) ?_
           refine done_ (done_of HT_.out (by kernel_rfl)) ?_
           try go_wp2
           go_ret
           (try rw [sameA10])
           (try rw [sameA12])
           exact ⟨by first | rfl | (simp [errW_none, errW_some] <;> rfl) | (simp [*, errW_none, errW_some] <;> rfl), by repeat (first | (with_reducible first | exact HB.out | apply below_alloc | apply pw_below_drewN | apply below_drew1) | exact HB.out)⟩
         ·replace c11 := Bool.eq_false_iff.mpr c11
          subst c11
          have H1 : (some false) = some r := by rw [if_neg (show ¬ (false = true) by decide)] at H; exact H
          clear H
          have H := H1
          clear H1
          obtain rfl := Option.some.inj H
          try go_wp2
          have n0_ := Aside0.mk (below_drew1 HB.out)
          clear HB
          have HB := n0_
          clear n0_
          have p294 : 0 ≤ (x5_1 : Int) := of_decide_eq_true (by first | (with_reducible assumption) | assumption)
          have q294 : x5_1 < (l0.length : Int) := of_decide_eq_true (by first | (with_reducible assumption) | assumption)
          obtain ⟨ad294, A294_1, c294_1, A294_2, c294_2, A294_3, c294_3, e294, hx294_0, hx294_1, hx294_2, hx294_3, hl294_1, hi294_1, hl294_2, hi294_2, hl294_3, hi294_3⟩ := at_T43 HR0.out x5_1 p294 q294
          have hw294_3 := hx294_3
          have hw294_2 := hx294_2
          have hw294_1 := hx294_1
          have hw294_0 := hx294_0
          cases e294
          replace hx294_0 := (HB.out.cell (World.block_lt_of_cell? w _ hx294_0)).trans hx294_0
          replace hx294_1 := (HB.out.cell (World.block_lt_of_cell? w _ hx294_1)).trans hx294_1
          replace hx294_2 := (HB.out.cell (World.block_lt_of_cell? w _ hx294_2)).trans hx294_2
          replace hx294_3 := (HB.out.cell (World.block_lt_of_cell? w _ hx294_3)).trans hx294_3
          have HR294_1 := Aside0.mk hi294_1
          have HC294_1 := Aside0.mk hl294_1
          clear hi294_1 hl294_1
          have HR294_2 := Aside0.mk hi294_2
          have HC294_2 := Aside0.mk hl294_2
          clear hi294_2 hl294_2
          have HR294_3 := Aside0.mk hi294_3
          have HC294_3 := Aside0.mk hl294_3
          clear hi294_3 hl294_3
          replace p294 := eq_true p294
          replace q294 := eq_true q294
          have p295 : 0 ≤ (x5_1 : Int) := of_decide_eq_true (by first | (with_reducible assumption) | assumption)
          have q295 : x5_1 < (l1.length : Int) := of_decide_eq_true (by first | (with_reducible assumption) | assumption)
          obtain ⟨ad295, A295_1, c295_1, A295_2, c295_2, A295_3, c295_3, e295, hx295_0, hx295_1, hx295_2, hx295_3, hl295_1, hi295_1, hl295_2, hi295_2, hl295_3, hi295_3⟩ := at_T43 HR1.out x5_1 p295 q295
          have hw295_3 := hx295_3
          have hw295_2 := hx295_2
          have hw295_1 := hx295_1
          have hw295_0 := hx295_0
          cases e295
          replace hx295_0 := (HB.out.cell (World.block_lt_of_cell? w _ hx295_0)).trans hx295_0
          replace hx295_1 := (HB.out.cell (World.block_lt_of_cell? w _ hx295_1)).trans hx295_1
          replace hx295_2 := (HB.out.cell (World.block_lt_of_cell? w _ hx295_2)).trans hx295_2
          replace hx295_3 := (HB.out.cell (World.block_lt_of_cell? w _ hx295_3)).trans hx295_3
          have HR295_1 := Aside0.mk hi295_1
          have HC295_1 := Aside0.mk hl295_1
          clear hi295_1 hl295_1
          have HR295_2 := Aside0.mk hi295_2
          have HC295_2 := Aside0.mk hl295_2
          clear hi295_2 hl295_2
          have HR295_3 := Aside0.mk hi295_3
          have HC295_3 := Aside0.mk hl295_3
          clear hi295_3 hl295_3
          replace p295 := eq_true p295
          replace q295 := eq_true q295
          have p296 : 0 ≤ (x5_1 : Int) := of_decide_eq_true (by first | (with_reducible assumption) | assumption)
          have q296 : x5_1 < (l0.length : Int) := of_decide_eq_true (by first | (with_reducible assumption) | assumption)
          obtain ⟨ad296, A296_1, c296_1, A296_2, c296_2, A296_3, c296_3, e296, hx296_0, hx296_1, hx296_2, hx296_3, hl296_1, hi296_1, hl296_2, hi296_2, hl296_3, hi296_3⟩ := at_T43 HR0.out x5_1 p296 q296
          have hw296_3 := hx296_3
          have hw296_2 := hx296_2
          have hw296_1 := hx296_1
          have hw296_0 := hx296_0
          obtain rfl : ad294 = ad296 := (by injection e296)
          replace hx296_0 := (HB.out.cell (World.block_lt_of_cell? w _ hx296_0)).trans hx296_0
          replace hx296_1 := (HB.out.cell (World.block_lt_of_cell? w _ hx296_1)).trans hx296_1
          replace hx296_2 := (HB.out.cell (World.block_lt_of_cell? w _ hx296_2)).trans hx296_2
          replace hx296_3 := (HB.out.cell (World.block_lt_of_cell? w _ hx296_3)).trans hx296_3
          have HR296_1 := Aside0.mk hi296_1
          have HC296_1 := Aside0.mk hl296_1
          clear hi296_1 hl296_1
          have HR296_2 := Aside0.mk hi296_2
          have HC296_2 := Aside0.mk hl296_2
          clear hi296_2 hl296_2
          have HR296_3 := Aside0.mk hi296_3
          have HC296_3 := Aside0.mk hl296_3
          clear hi296_3 hl296_3
          replace p296 := eq_true p296
          replace q296 := eq_true q296
          have ea_ := Option.some.inj (hx294_1.symm.trans hx296_1)
          injection ea_ with ea_ en_ ec_
          subst ea_
          subst ec_
          clear en_
          have ea_ := Option.some.inj (hx294_2.symm.trans hx296_2)
          injection ea_ with ea_ en_ ec_
          subst ea_
          subst ec_
          clear en_
          have ea_ := Option.some.inj (hx294_3.symm.trans hx296_3)
          injection ea_ with ea_ en_ ec_
          subst ea_
          subst ec_
          clear en_
          have p297 : 0 ≤ (x5_1 : Int) := of_decide_eq_true (by first | (with_reducible assumption) | assumption)
          have q297 : x5_1 < (l1.length : Int) := of_decide_eq_true (by first | (with_reducible assumption) | assumption)
          obtain ⟨ad297, A297_1, c297_1, A297_2, c297_2, A297_3, c297_3, e297, hx297_0, hx297_1, hx297_2, hx297_3, hl297_1, hi297_1, hl297_2, hi297_2, hl297_3, hi297_3⟩ := at_T43 HR1.out x5_1 p297 q297
          have hw297_3 := hx297_3
          have hw297_2 := hx297_2
          have hw297_1 := hx297_1
          have hw297_0 := hx297_0
          obtain rfl : ad295 = ad297 := (by injection e297)
          replace hx297_0 := (HB.out.cell (World.block_lt_of_cell? w _ hx297_0)).trans hx297_0
          replace hx297_1 := (HB.out.cell (World.block_lt_of_cell? w _ hx297_1)).trans hx297_1
          replace hx297_2 := (HB.out.cell (World.block_lt_of_cell? w _ hx297_2)).trans hx297_2
          replace hx297_3 := (HB.out.cell (World.block_lt_of_cell? w _ hx297_3)).trans hx297_3
          have HR297_1 := Aside0.mk hi297_1
          have HC297_1 := Aside0.mk hl297_1
          clear hi297_1 hl297_1
          have HR297_2 := Aside0.mk hi297_2
          have HC297_2 := Aside0.mk hl297_2
          clear hi297_2 hl297_2
          have HR297_3 := Aside0.mk hi297_3
          have HC297_3 := Aside0.mk hl297_3
          clear hi297_3 hl297_3
          replace p297 := eq_true p297
          replace q297 := eq_true q297
          have ea_ := Option.some.inj (hx295_1.symm.trans hx297_1)
          injection ea_ with ea_ en_ ec_
          subst ea_
          subst ec_
          clear en_
          have ea_ := Option.some.inj (hx295_2.symm.trans hx297_2)
          injection ea_ with ea_ en_ ec_
          subst ea_
          subst ec_
          clear en_
          have ea_ := Option.some.inj (hx295_3.symm.trans hx297_3)
          injection ea_ with ea_ en_ ec_
          subst ea_
          subst ec_
          clear en_
          have p299 : 0 ≤ (x5_1 : Int) := of_decide_eq_true (by first | (with_reducible assumption) | assumption)
          have q299 : x5_1 < (l0.length : Int) := of_decide_eq_true (by first | (with_reducible assumption) | assumption)
          obtain ⟨ad299, A299_1, c299_1, A299_2, c299_2, A299_3, c299_3, e299, hx299_0, hx299_1, hx299_2, hx299_3, hl299_1, hi299_1, hl299_2, hi299_2, hl299_3, hi299_3⟩ := at_T43 HR0.out x5_1 p299 q299
          have hw299_3 := hx299_3
          have hw299_2 := hx299_2
          have hw299_1 := hx299_1
          have hw299_0 := hx299_0
          obtain rfl : ad294 = ad299 := (by injection e299)
          replace hx299_0 := (HB.out.cell (World.block_lt_of_cell? w _ hx299_0)).trans hx299_0
          replace hx299_1 := (HB.out.cell (World.block_lt_of_cell? w _ hx299_1)).trans hx299_1
          replace hx299_2 := (HB.out.cell (World.block_lt_of_cell? w _ hx299_2)).trans hx299_2
          replace hx299_3 := (HB.out.cell (World.block_lt_of_cell? w _ hx299_3)).trans hx299_3
          have HR299_1 := Aside0.mk hi299_1
          have HC299_1 := Aside0.mk hl299_1
          clear hi299_1 hl299_1
          have HR299_2 := Aside0.mk hi299_2
          have HC299_2 := Aside0.mk hl299_2
          clear hi299_2 hl299_2
          have HR299_3 := Aside0.mk hi299_3
          have HC299_3 := Aside0.mk hl299_3
          clear hi299_3 hl299_3
          replace p299 := eq_true p299
          replace q299 := eq_true q299
          have ea_ := Option.some.inj (hx294_1.symm.trans hx299_1)
          injection ea_ with ea_ en_ ec_
          subst ea_
          subst ec_
          clear en_
          have ea_ := Option.some.inj (hx294_2.symm.trans hx299_2)
          injection ea_ with ea_ en_ ec_
          subst ea_
          subst ec_
          clear en_
          have ea_ := Option.some.inj (hx294_3.symm.trans hx299_3)
          injection ea_ with ea_ en_ ec_
          subst ea_
          subst ec_
          clear en_
          have p300 : 0 ≤ (x5_1 : Int) := of_decide_eq_true (by first | (with_reducible assumption) | assumption)
          have q300 : x5_1 < (l1.length : Int) := of_decide_eq_true (by first | (with_reducible assumption) | assumption)
          obtain ⟨ad300, A300_1, c300_1, A300_2, c300_2, A300_3, c300_3, e300, hx300_0, hx300_1, hx300_2, hx300_3, hl300_1, hi300_1, hl300_2, hi300_2, hl300_3, hi300_3⟩ := at_T43 HR1.out x5_1 p300 q300
          have hw300_3 := hx300_3
          have hw300_2 := hx300_2
          have hw300_1 := hx300_1
          have hw300_0 := hx300_0
          obtain rfl : ad295 = ad300 := (by injection e300)
          replace hx300_0 := (HB.out.cell (World.block_lt_of_cell? w _ hx300_0)).trans hx300_0
          replace hx300_1 := (HB.out.cell (World.block_lt_of_cell? w _ hx300_1)).trans hx300_1
          replace hx300_2 := (HB.out.cell (World.block_lt_of_cell? w _ hx300_2)).trans hx300_2
          replace hx300_3 := (HB.out.cell (World.block_lt_of_cell? w _ hx300_3)).trans hx300_3
          have HR300_1 := Aside0.mk hi300_1
          have HC300_1 := Aside0.mk hl300_1
          clear hi300_1 hl300_1
          have HR300_2 := Aside0.mk hi300_2
          have HC300_2 := Aside0.mk hl300_2
          clear hi300_2 hl300_2
          have HR300_3 := Aside0.mk hi300_3
          have HC300_3 := Aside0.mk hl300_3
          clear hi300_3 hl300_3
          replace p300 := eq_true p300
          replace q300 := eq_true q300
          have ea_ := Option.some.inj (hx295_1.symm.trans hx300_1)
          injection ea_ with ea_ en_ ec_
          subst ea_
          subst ec_
          clear en_
          have ea_ := Option.some.inj (hx295_2.symm.trans hx300_2)
          injection ea_ with ea_ en_ ec_
          subst ea_
          subst ec_
          clear en_
          have ea_ := Option.some.inj (hx295_3.symm.trans hx300_3)
          injection ea_ with ea_ en_ ec_
          subst ea_
          subst ec_
          clear en_
          refine start_ (n := 53) (S := fun w' => w'.cell? (ad294.add ((x5_1).toNat * 4)) = some (.int .u8 ((rd_T43 l0 x5_1).f0)) ∧ w'.cell? ⟨(ad294.add ((x5_1).toNat * 4)).block, (ad294.add ((x5_1).toNat * 4)).off + 1, none⟩ = some (.slice A294_1 ((rd_T43 l0 x5_1).f1).length c294_1) ∧ w'.cell? ⟨(ad294.add ((x5_1).toNat * 4)).block, (ad294.add ((x5_1).toNat * 4)).off + 2, none⟩ = some (.slice A294_2 ((rd_T43 l0 x5_1).f2).length c294_2) ∧ w'.cell? ⟨(ad294.add ((x5_1).toNat * 4)).block, (ad294.add ((x5_1).toNat * 4)).off + 3, none⟩ = some (.slice A294_3 ((rd_T43 l0 x5_1).f3).length c294_3) ∧ w'.cell? (ad295.add ((x5_1).toNat * 4)) = some (.int .u8 ((rd_T43 l1 x5_1).f0)) ∧ w'.cell? ⟨(ad295.add ((x5_1).toNat * 4)).block, (ad295.add ((x5_1).toNat * 4)).off + 1, none⟩ = some (.slice A295_1 ((rd_T43 l1 x5_1).f1).length c295_1) ∧ w'.cell? ⟨(ad295.add ((x5_1).toNat * 4)).block, (ad295.add ((x5_1).toNat * 4)).off + 2, none⟩ = some (.slice A295_2 ((rd_T43 l1 x5_1).f2).length c295_2) ∧ w'.cell? ⟨(ad295.add ((x5_1).toNat * 4)).block, (ad295.add ((x5_1).toNat * 4)).off + 3, none⟩ = some (.slice A295_3 ((rd_T43 l1 x5_1).f3).length c295_3) ∧ w'.cell? (ad294.add ((x5_1).toNat * 4)) = some (.int .u8 ((rd_T43 l0 x5_1).f0)) ∧ w'.cell? ⟨(ad294.add ((x5_1).toNat * 4)).block, (ad294.add ((x5_1).toNat * 4)).off + 1, none⟩ = some (.slice A294_1 ((rd_T43 l0 x5_1).f1).length c294_1) ∧ w'.cell? ⟨(ad294.add ((x5_1).toNat * 4)).block, (ad294.add ((x5_1).toNat * 4)).off + 2, none⟩ = some (.slice A294_2 ((rd_T43 l0 x5_1).f2).length c294_2) ∧ w'.cell? ⟨(ad294.add ((x5_1).toNat * 4)).block, (ad294.add ((x5_1).toNat * 4)).off + 3, none⟩ = some (.slice A294_3 ((rd_T43 l0 x5_1).f3).length c294_3) ∧ w'.cell? (ad295.add ((x5_1).toNat * 4)) = some (.int .u8 ((rd_T43 l1 x5_1).f0)) ∧ w'.cell? ⟨(ad295.add ((x5_1).toNat * 4)).block, (ad295.add ((x5_1).toNat * 4)).off + 1, none⟩ = some (.slice A295_1 ((rd_T43 l1 x5_1).f1).length c295_1) ∧ w'.cell? ⟨(ad295.add ((x5_1).toNat * 4)).block, (ad295.add ((x5_1).toNat * 4)).off + 2, none⟩ = some (.slice A295_2 ((rd_T43 l1 x5_1).f2).length c295_2) ∧ w'.cell? ⟨(ad295.add ((x5_1).toNat * 4)).block, (ad295.add ((x5_1).toNat * 4)).off + 3, none⟩ = some (.slice A295_3 ((rd_T43 l1 x5_1).f3).length c295_3) ∧ w'.cell? (ad294.add ((x5_1).toNat * 4)) = some (.int .u8 ((rd_T43 l0 x5_1).f0)) ∧ w'.cell? ⟨(ad294.add ((x5_1).toNat * 4)).block, (ad294.add ((x5_1).toNat * 4)).off + 1, none⟩ = some (.slice A294_1 ((rd_T43 l0 x5_1).f1).length c294_1) ∧ w'.cell? ⟨(ad294.add ((x5_1).toNat * 4)).block, (ad294.add ((x5_1).toNat * 4)).off + 2, none⟩ = some (.slice A294_2 ((rd_T43 l0 x5_1).f2).length c294_2) ∧ w'.cell? ⟨(ad294.add ((x5_1).toNat * 4)).block, (ad294.add ((x5_1).toNat * 4)).off + 3, none⟩ = some (.slice A294_3 ((rd_T43 l0 x5_1).f3).length c294_3) ∧ w'.cell? (ad295.add ((x5_1).toNat * 4)) = some (.int .u8 ((rd_T43 l1 x5_1).f0)) ∧ w'.cell? ⟨(ad295.add ((x5_1).toNat * 4)).block, (ad295.add ((x5_1).toNat * 4)).off + 1, none⟩ = some (.slice A295_1 ((rd_T43 l1 x5_1).f1).length c295_1) ∧ w'.cell? ⟨(ad295.add ((x5_1).toNat * 4)).block, (ad295.add ((x5_1).toNat * 4)).off + 2, none⟩ = some (.slice A295_2 ((rd_T43 l1 x5_1).f2).length c295_2) ∧ w'.cell? ⟨(ad295.add ((x5_1).toNat * 4)).block, (ad295.add ((x5_1).toNat * 4)).off + 3, none⟩ = some (.slice A295_3 ((rd_T43 l1 x5_1).f3).length c295_3)) (ds := []) Bz0 (by kernel_rfl) rfl rfl ⟨((HB.out.cell (World.block_lt_of_cell? w _ hw294_0)).trans hw294_0), ((HB.out.cell (World.block_lt_of_cell? w _ hw294_1)).trans hw294_1), ((HB.out.cell (World.block_lt_of_cell? w _ hw294_2)).trans hw294_2), ((HB.out.cell (World.block_lt_of_cell? w _ hw294_3)).trans hw294_3), ((HB.out.cell (World.block_lt_of_cell? w _ hw295_0)).trans hw295_0), ((HB.out.cell (World.block_lt_of_cell? w _ hw295_1)).trans hw295_1), ((HB.out.cell (World.block_lt_of_cell? w _ hw295_2)).trans hw295_2), ((HB.out.cell (World.block_lt_of_cell? w _ hw295_3)).trans hw295_3), ((HB.out.cell (World.block_lt_of_cell? w _ hw296_0)).trans hw296_0), ((HB.out.cell (World.block_lt_of_cell? w _ hw296_1)).trans hw296_1), ((HB.out.cell (World.block_lt_of_cell? w _ hw296_2)).trans hw296_2), ((HB.out.cell (World.block_lt_of_cell? w _ hw296_3)).trans hw296_3), ((HB.out.cell (World.block_lt_of_cell? w _ hw297_0)).trans hw297_0), ((HB.out.cell (World.block_lt_of_cell? w _ hw297_1)).trans hw297_1), ((HB.out.cell (World.block_lt_of_cell? w _ hw297_2)).trans hw297_2), ((HB.out.cell (World.block_lt_of_cell? w _ hw297_3)).trans hw297_3), ((HB.out.cell (World.block_lt_of_cell? w _ hw299_0)).trans hw299_0), ((HB.out.cell (World.block_lt_of_cell? w _ hw299_1)).trans hw299_1), ((HB.out.cell (World.block_lt_of_cell? w _ hw299_2)).trans hw299_2), ((HB.out.cell (World.block_lt_of_cell? w _ hw299_3)).trans hw299_3), ((HB.out.cell (World.block_lt_of_cell? w _ hw300_0)).trans hw300_0), ((HB.out.cell (World.block_lt_of_cell? w _ hw300_1)).trans hw300_1), ((HB.out.cell (World.block_lt_of_cell? w _ hw300_2)).trans hw300_2), ((HB.out.cell (World.block_lt_of_cell? w _ hw300_3)).trans hw300_3)⟩ (fun hHeld => ?_); refine with_tabW sidingref18_Same.tab6 sidingref18_Same.bits6 (fun HT_ HW_ => ?_)
          generalize wr.drew = w16 at HB HR294_1 HR294_2 HR294_3 HR295_1 HR295_2 HR295_3 HR296_1 HR296_2 HR296_3 HR297_1 HR297_2 HR297_3 HR299_1 HR299_2 HR299_3 HR300_1 HR300_2 HR300_3 hx294_0 hx294_1 hx294_2 hx294_3 hx295_0 hx295_1 hx295_2 hx295_3 hx296_0 hx296_1 hx296_2 hx296_3 hx297_0 hx297_1 hx297_2 hx297_3 hx299_0 hx299_1 hx299_2 hx299_3 hx300_0 hx300_1 hx300_2 hx300_3 hHeld ⊢
          refine pu 0 17 Bz1 rfl rfl (any_of HT_.out (by kernel_rfl)) ?_
          refine pu 1 18 Bz2 rfl rfl (any_of HT_.out (by kernel_rfl)) ?_
          refine pu 2 19 Bz3 rfl rfl (any_of HT_.out (by kernel_rfl)) ?_
          refine pu 3 20 Bz4 rfl rfl (any_of HT_.out (by kernel_rfl)) ?_
          refine pu 5 22 Bz5 rfl rfl (any_of HT_.out (by kernel_rfl)) ?_
          refine pu 6 23 Bz6 rfl rfl (any_of HT_.out (by kernel_rfl)) ?_
          refine pu 7 24 Bz7 rfl rfl (any_of HT_.out (by kernel_rfl)) ?_
          refine pu 8 25 Bz8 rfl rfl (any_of HT_.out (by kernel_rfl)) ?_
          refine take_ (i := 4) (N := some 21) (v := ?_) (a' := ?_) Bz9 rfl rfl (take_ofW HT_.out HW_.out (by kernel_rfl)) (fun _ _ _ h => h) (Or.inl ⟨by rfl, ?_⟩) hHeld ?_ ?_; rotate_left; (focus rintro w' ⟨s0, s1, s2, s3, s4, s5, s6, s7, s8, s9, s10, s11, s12, s13, s14, s15, s16, s17, s18, s19, s20, s21, s22, s23⟩; go_simp; with_reducible rfl); rotate_left; (focus go_simp; rfl)
          refine take_ (i := 9) (N := some 26) (v := ?_) (a' := ?_) Bz10 rfl rfl (take_ofW HT_.out HW_.out (by kernel_rfl)) (fun _ _ _ h => h) (Or.inl ⟨by rfl, ?_⟩) hHeld ?_ ?_; rotate_left; (focus rintro w' ⟨s0, s1, s2, s3, s4, s5, s6, s7, s8, s9, s10, s11, s12, s13, s14, s15, s16, s17, s18, s19, s20, s21, s22, s23⟩; go_simp; with_reducible rfl); rotate_left; (focus go_simp; rfl)
          refine pu 10 27 Bz11 rfl rfl (any_of HT_.out (by kernel_rfl)) ?_
          refine pu 11 28 Bz12 rfl rfl (any_of HT_.out (by kernel_rfl)) ?_
          refine pu 12 29 Bz13 rfl rfl (any_of HT_.out (by kernel_rfl)) ?_
          refine pu 13 30 Bz14 rfl rfl (any_of HT_.out (by kernel_rfl)) ?_
          refine pu 14 31 Bz15 rfl rfl (any_of HT_.out (by kernel_rfl)) ?_
          refine pu 15 32 Bz16 rfl rfl (any_of HT_.out (by kernel_rfl)) ?_
          refine pu 17 34 Bz17 rfl rfl (any_of HT_.out (by kernel_rfl)) ?_
          refine pu 18 35 Bz18 rfl rfl (any_of HT_.out (by kernel_rfl)) ?_
          refine pu 19 36 Bz19 rfl rfl (any_of HT_.out (by kernel_rfl)) ?_
          refine pu 20 37 Bz20 rfl rfl (any_of HT_.out (by kernel_rfl)) ?_
          refine take_ (i := 16) (N := some 33) (v := ?_) (a' := ?_) Bz21 rfl rfl (take_ofW HT_.out HW_.out (by kernel_rfl)) (fun _ _ _ h => h) (Or.inl ⟨by rfl, ?_⟩) hHeld ?_ ?_; rotate_left; (focus rintro w' ⟨s0, s1, s2, s3, s4, s5, s6, s7, s8, s9, s10, s11, s12, s13, s14, s15, s16, s17, s18, s19, s20, s21, s22, s23⟩; go_simp; with_reducible rfl); rotate_left; (focus go_simp; rfl)
          refine take_ (i := 21) (N := some 38) (v := ?_) (a' := ?_) Bz22 rfl rfl (take_ofW HT_.out HW_.out (by kernel_rfl)) (fun _ _ _ h => h) (Or.inl ⟨by rfl, ?_⟩) hHeld ?_ ?_; rotate_left; (focus rintro w' ⟨s0, s1, s2, s3, s4, s5, s6, s7, s8, s9, s10, s11, s12, s13, s14, s15, s16, s17, s18, s19, s20, s21, s22, s23⟩; go_simp; with_reducible rfl); rotate_left; (focus go_simp; rfl)
          refine one_ (i := 22) (N := some 39) Bz23 rfl rfl (one_of HT_.out (by kernel_rfl)) (by decide) (fun K hK => ?_)
          refine goes_ Tryd.func16 (by kernel_rfl) rfl #[.slice A294_1 ((rd_T43 l0 x5_1).f1).length c294_1, .slice A295_1 ((rd_T43 l1 x5_1).f1).length c295_1] (by rfl) rfl rfl (by (try simp only [List.map_toArray, List.map_cons, List.map_nil]); first | done | rfl | (simp only [List.length_drop, List.length_take]; rfl)) ?_
          with_reducible refine (sidingref13_Same.calls k1 _ _ ((rd_T43 l0 x5_1).f1) _ _ ((rd_T43 l1 x5_1).f1) true _ ?side1 ?side2 ?side3 ?side4 A8.out).mono ?_
          (case side1 => repeat (first | exact (Kd.C_below HR296_1.out HB.out) | (with_reducible refine Kd.C_alloc ?_ _) | (with_reducible refine Kd.C_drewN ?_ _) | (with_reducible refine Kd.C_drew ?_)))
          (case side2 => exact HC296_1.out)
          (case side3 => repeat (first | exact (Kd.C_below HR297_1.out HB.out) | (with_reducible refine Kd.C_alloc ?_ _) | (with_reducible refine Kd.C_drewN ?_ _) | (with_reducible refine Kd.C_drew ?_)))
          (case side4 => exact HC297_1.out)
          rintro e w' ⟨rfl, ⟨nd, rfl⟩⟩
          refine ⟨_, rfl, ?_⟩
          refine hK.out _ _ ⟨((HB.out.cell (World.block_lt_of_cell? w _ hw294_0)).trans hw294_0), ((HB.out.cell (World.block_lt_of_cell? w _ hw294_1)).trans hw294_1), ((HB.out.cell (World.block_lt_of_cell? w _ hw294_2)).trans hw294_2), ((HB.out.cell (World.block_lt_of_cell? w _ hw294_3)).trans hw294_3), ((HB.out.cell (World.block_lt_of_cell? w _ hw295_0)).trans hw295_0), ((HB.out.cell (World.block_lt_of_cell? w _ hw295_1)).trans hw295_1), ((HB.out.cell (World.block_lt_of_cell? w _ hw295_2)).trans hw295_2), ((HB.out.cell (World.block_lt_of_cell? w _ hw295_3)).trans hw295_3), ((HB.out.cell (World.block_lt_of_cell? w _ hw296_0)).trans hw296_0), ((HB.out.cell (World.block_lt_of_cell? w _ hw296_1)).trans hw296_1), ((HB.out.cell (World.block_lt_of_cell? w _ hw296_2)).trans hw296_2), ((HB.out.cell (World.block_lt_of_cell? w _ hw296_3)).trans hw296_3), ((HB.out.cell (World.block_lt_of_cell? w _ hw297_0)).trans hw297_0), ((HB.out.cell (World.block_lt_of_cell? w _ hw297_1)).trans hw297_1), ((HB.out.cell (World.block_lt_of_cell? w _ hw297_2)).trans hw297_2), ((HB.out.cell (World.block_lt_of_cell? w _ hw297_3)).trans hw297_3), ((HB.out.cell (World.block_lt_of_cell? w _ hw299_0)).trans hw299_0), ((HB.out.cell (World.block_lt_of_cell? w _ hw299_1)).trans hw299_1), ((HB.out.cell (World.block_lt_of_cell? w _ hw299_2)).trans hw299_2), ((HB.out.cell (World.block_lt_of_cell? w _ hw299_3)).trans hw299_3), ((HB.out.cell (World.block_lt_of_cell? w _ hw300_0)).trans hw300_0), ((HB.out.cell (World.block_lt_of_cell? w _ hw300_1)).trans hw300_1), ((HB.out.cell (World.block_lt_of_cell? w _ hw300_2)).trans hw300_2), ((HB.out.cell (World.block_lt_of_cell? w _ hw300_3)).trans hw300_3)⟩ (fun hHeld => ?_)
          clear hK K
          refine norm_ (a' := ?_) ?_ ?_
          rotate_left
          ·show Act.put _ (some 39) _ = _
           simp only [Act.put, List.setIfInBounds_toArray, List.set_cons_zero, List.set_cons_succ, i64_w, i32_w]
           rfl
          refine pu 23 40 Bz24 rfl rfl (any_of HT_.out (by kernel_rfl)) ?_
          refine pu 24 41 Bz25 rfl rfl (any_of HT_.out (by kernel_rfl)) ?_
          refine pu 25 42 Bz26 rfl rfl (any_of HT_.out (by kernel_rfl)) ?_
          refine pu 26 43 Bz27 rfl rfl (any_of HT_.out (by kernel_rfl)) ?_
          refine pu 27 44 Bz28 rfl rfl (any_of HT_.out (by kernel_rfl)) ?_
          refine pu 28 45 Bz29 rfl rfl (any_of HT_.out (by kernel_rfl)) ?_
          refine pu 29 46 Bz30 rfl rfl (any_of HT_.out (by kernel_rfl)) ?_
          refine pu 31 48 Bz31 rfl rfl (any_of HT_.out (by kernel_rfl)) ?_
          refine pu 32 49 Bz32 rfl rfl (any_of HT_.out (by kernel_rfl)) ?_
          refine pu 33 50 Bz33 rfl rfl (any_of HT_.out (by kernel_rfl)) ?_
          refine pu 34 51 Bz34 rfl rfl (any_of HT_.out (by kernel_rfl)) ?_
          refine take_ (i := 30) (N := some 47) (v := ?_) (a' := ?_) Bz35 rfl rfl (take_ofW HT_.out HW_.out (by kernel_rfl)) (fun _ _ _ h => h) (Or.inl ⟨by rfl, ?_⟩) hHeld ?_ ?_; rotate_left; (focus rintro w' ⟨s0, s1, s2, s3, s4, s5, s6, s7, s8, s9, s10, s11, s12, s13, s14, s15, s16, s17, s18, s19, s20, s21, s22, s23⟩; go_simp; with_reducible rfl); rotate_left; (focus go_simp; rfl)
          refine take_ (i := 35) (N := some 52) (v := ?_) (a' := ?_) Bz36 rfl rfl (take_ofW HT_.out HW_.out (by kernel_rfl)) (fun _ _ _ h => h) (Or.inl ⟨by rfl, ?_⟩) hHeld ?_ ?_; rotate_left; (focus rintro w' ⟨s0, s1, s2, s3, s4, s5, s6, s7, s8, s9, s10, s11, s12, s13, s14, s15, s16, s17, s18, s19, s20, s21, s22, s23⟩; go_simp; with_reducible rfl); rotate_left; (focus go_simp; rfl)
          refine one_ (i := 36) (N := some 53) Bz37 rfl rfl (one_of HT_.out (by kernel_rfl)) (by decide) (fun K hK => ?_)
          refine goes_ Tryd.func16 (by kernel_rfl) rfl #[.slice A294_2 ((rd_T43 l0 x5_1).f2).length c294_2, .slice A295_2 ((rd_T43 l1 x5_1).f2).length c295_2] (by rfl) rfl rfl (by (try simp only [List.map_toArray, List.map_cons, List.map_nil]); first | done | rfl | (simp only [List.length_drop, List.length_take]; rfl)) ?_
          with_reducible refine (sidingref13_Same.calls k1 _ _ ((rd_T43 l0 x5_1).f2) _ _ ((rd_T43 l1 x5_1).f2) false _ ?side1 ?side2 ?side3 ?side4 A10.out).mono ?_
          (case side1 => repeat (first | exact (Kd.C_below HR299_2.out (by repeat (first | (with_reducible first | exact HB.out | apply below_alloc | apply pw_below_drewN | apply below_drew1) | exact HB.out))) | (with_reducible refine Kd.C_alloc ?_ _) | (with_reducible refine Kd.C_drewN ?_ _) | (with_reducible refine Kd.C_drew ?_)))
          (case side2 => exact HC299_2.out)
          (case side3 => repeat (first | exact (Kd.C_below HR300_2.out (by repeat (first | (with_reducible first | exact HB.out | apply below_alloc | apply pw_below_drewN | apply below_drew1) | exact HB.out))) | (with_reducible refine Kd.C_alloc ?_ _) | (with_reducible refine Kd.C_drewN ?_ _) | (with_reducible refine Kd.C_drew ?_)))
          (case side4 => exact HC300_2.out)
          rintro e w' ⟨rfl, ⟨nd, rfl⟩⟩
          refine ⟨_, rfl, ?_⟩
          refine hK.out _ _ ⟨((HB.out.cell (World.block_lt_of_cell? w _ hw294_0)).trans hw294_0), ((HB.out.cell (World.block_lt_of_cell? w _ hw294_1)).trans hw294_1), ((HB.out.cell (World.block_lt_of_cell? w _ hw294_2)).trans hw294_2), ((HB.out.cell (World.block_lt_of_cell? w _ hw294_3)).trans hw294_3), ((HB.out.cell (World.block_lt_of_cell? w _ hw295_0)).trans hw295_0), ((HB.out.cell (World.block_lt_of_cell? w _ hw295_1)).trans hw295_1), ((HB.out.cell (World.block_lt_of_cell? w _ hw295_2)).trans hw295_2), ((HB.out.cell (World.block_lt_of_cell? w _ hw295_3)).trans hw295_3), ((HB.out.cell (World.block_lt_of_cell? w _ hw296_0)).trans hw296_0), ((HB.out.cell (World.block_lt_of_cell? w _ hw296_1)).trans hw296_1), ((HB.out.cell (World.block_lt_of_cell? w _ hw296_2)).trans hw296_2), ((HB.out.cell (World.block_lt_of_cell? w _ hw296_3)).trans hw296_3), ((HB.out.cell (World.block_lt_of_cell? w _ hw297_0)).trans hw297_0), ((HB.out.cell (World.block_lt_of_cell? w _ hw297_1)).trans hw297_1), ((HB.out.cell (World.block_lt_of_cell? w _ hw297_2)).trans hw297_2), ((HB.out.cell (World.block_lt_of_cell? w _ hw297_3)).trans hw297_3), ((HB.out.cell (World.block_lt_of_cell? w _ hw299_0)).trans hw299_0), ((HB.out.cell (World.block_lt_of_cell? w _ hw299_1)).trans hw299_1), ((HB.out.cell (World.block_lt_of_cell? w _ hw299_2)).trans hw299_2), ((HB.out.cell (World.block_lt_of_cell? w _ hw299_3)).trans hw299_3), ((HB.out.cell (World.block_lt_of_cell? w _ hw300_0)).trans hw300_0), ((HB.out.cell (World.block_lt_of_cell? w _ hw300_1)).trans hw300_1), ((HB.out.cell (World.block_lt_of_cell? w _ hw300_2)).trans hw300_2), ((HB.out.cell (World.block_lt_of_cell? w _ hw300_3)).trans hw300_3)⟩ (fun hHeld => ?_)
          clear hK K
          refine norm_ (a' := ?_) ?_ ?_
          rotate_left
          ·show Act.put _ (some 53) _ = _
           simp only [Act.put, List.setIfInBounds_toArray, List.set_cons_zero, List.set_cons_succ, i64_w, i32_w]
           rfl
          refine pu 37 54 Bz38 rfl rfl (any_of HT_.out (by kernel_rfl)) ?_
          refine pu 38 55 Bz39 rfl rfl (any_of HT_.out (by kernel_rfl)) ?_
          refine pu 39 56 Bz40 rfl rfl (any_of HT_.out (by kernel_rfl)) ?_
          refine po 40 57 Bz41 rfl rfl (any_of HT_.out (by kernel_rfl)) ?_
          refine po 41 58 Bz42 rfl rfl (any_of HT_.out (by kernel_rfl)) ?_
          refine po 42 59 Bz43 rfl rfl (any_of HT_.out (by kernel_rfl)) ?_
          refine po 43 60 Bz44 rfl rfl (any_of HT_.out (by kernel_rfl)) ?_
          refine po 44 61 Bz54 rfl rfl (any_of HT_.out (by kernel_rfl)) ?_
          refine po 45 62 Bz55 rfl rfl (any_of HT_.out (by kernel_rfl)) ?_
          refine po 46 63 Bz56 rfl rfl (any_of HT_.out (by kernel_rfl)) ?_
          refine po 47 64 Bz57 rfl rfl (any_of HT_.out (by kernel_rfl)) ?_
          refine po 48 65 Bz49 rfl rfl (any_of HT_.out (by kernel_rfl)) ?_
          refine po 49 66 Bz50 rfl rfl (any_of HT_.out (by kernel_rfl)) ?_
          refine po 50 67 Bz51 rfl rfl (any_of HT_.out (by kernel_rfl)) ?_
          refine po 51 68 Bz52 rfl rfl (any_of HT_.out (by kernel_rfl)) ?_
          refine pu 52 69 Bz53 rfl rfl (any_of HT_.out (by kernel_rfl)) ?_
          refine done_ (done_of HT_.out (by kernel_rfl)) ?_
          try go_wp2
          go_ret
          (try rw [sameA10])
          exact ⟨by first | rfl | (simp [errW_none, errW_some] <;> rfl) | (simp [*, errW_none, errW_some] <;> rfl), by repeat (first | (with_reducible first | exact HB.out | apply below_alloc | apply pw_below_drewN | apply below_drew1) | exact HB.out)⟩
        ·replace c9 := Bool.eq_false_iff.mpr c9
         subst c9
         have H1 : (some false) = some r := by rw [if_neg (show ¬ (false = true) by decide)] at H; exact H
         clear H
         have H := H1
         clear H1
         obtain rfl := Option.some.inj H
         try go_wp2
         have n0_ := Aside0.mk (below_drew1 HB.out)
         clear HB
         have HB := n0_
         clear n0_
         have p294 : 0 ≤ (x5_1 : Int) := of_decide_eq_true (by first | (with_reducible assumption) | assumption)
         have q294 : x5_1 < (l0.length : Int) := of_decide_eq_true (by first | (with_reducible assumption) | assumption)
         obtain ⟨ad294, A294_1, c294_1, A294_2, c294_2, A294_3, c294_3, e294, hx294_0, hx294_1, hx294_2, hx294_3, hl294_1, hi294_1, hl294_2, hi294_2, hl294_3, hi294_3⟩ := at_T43 HR0.out x5_1 p294 q294
         have hw294_3 := hx294_3
         have hw294_2 := hx294_2
         have hw294_1 := hx294_1
         have hw294_0 := hx294_0
         cases e294
         replace hx294_0 := (HB.out.cell (World.block_lt_of_cell? w _ hx294_0)).trans hx294_0
         replace hx294_1 := (HB.out.cell (World.block_lt_of_cell? w _ hx294_1)).trans hx294_1
         replace hx294_2 := (HB.out.cell (World.block_lt_of_cell? w _ hx294_2)).trans hx294_2
         replace hx294_3 := (HB.out.cell (World.block_lt_of_cell? w _ hx294_3)).trans hx294_3
         have HR294_1 := Aside0.mk hi294_1
         have HC294_1 := Aside0.mk hl294_1
         clear hi294_1 hl294_1
         have HR294_2 := Aside0.mk hi294_2
         have HC294_2 := Aside0.mk hl294_2
         clear hi294_2 hl294_2
         have HR294_3 := Aside0.mk hi294_3
         have HC294_3 := Aside0.mk hl294_3
         clear hi294_3 hl294_3
         replace p294 := eq_true p294
         replace q294 := eq_true q294
         have p295 : 0 ≤ (x5_1 : Int) := of_decide_eq_true (by first | (with_reducible assumption) | assumption)
         have q295 : x5_1 < (l1.length : Int) := of_decide_eq_true (by first | (with_reducible assumption) | assumption)
         obtain ⟨ad295, A295_1, c295_1, A295_2, c295_2, A295_3, c295_3, e295, hx295_0, hx295_1, hx295_2, hx295_3, hl295_1, hi295_1, hl295_2, hi295_2, hl295_3, hi295_3⟩ := at_T43 HR1.out x5_1 p295 q295
         have hw295_3 := hx295_3
         have hw295_2 := hx295_2
         have hw295_1 := hx295_1
         have hw295_0 := hx295_0
         cases e295
         replace hx295_0 := (HB.out.cell (World.block_lt_of_cell? w _ hx295_0)).trans hx295_0
         replace hx295_1 := (HB.out.cell (World.block_lt_of_cell? w _ hx295_1)).trans hx295_1
         replace hx295_2 := (HB.out.cell (World.block_lt_of_cell? w _ hx295_2)).trans hx295_2
         replace hx295_3 := (HB.out.cell (World.block_lt_of_cell? w _ hx295_3)).trans hx295_3
         have HR295_1 := Aside0.mk hi295_1
         have HC295_1 := Aside0.mk hl295_1
         clear hi295_1 hl295_1
         have HR295_2 := Aside0.mk hi295_2
         have HC295_2 := Aside0.mk hl295_2
         clear hi295_2 hl295_2
         have HR295_3 := Aside0.mk hi295_3
         have HC295_3 := Aside0.mk hl295_3
         clear hi295_3 hl295_3
         replace p295 := eq_true p295
         replace q295 := eq_true q295
         have p296 : 0 ≤ (x5_1 : Int) := of_decide_eq_true (by first | (with_reducible assumption) | assumption)
         have q296 : x5_1 < (l0.length : Int) := of_decide_eq_true (by first | (with_reducible assumption) | assumption)
         obtain ⟨ad296, A296_1, c296_1, A296_2, c296_2, A296_3, c296_3, e296, hx296_0, hx296_1, hx296_2, hx296_3, hl296_1, hi296_1, hl296_2, hi296_2, hl296_3, hi296_3⟩ := at_T43 HR0.out x5_1 p296 q296
         have hw296_3 := hx296_3
         have hw296_2 := hx296_2
         have hw296_1 := hx296_1
         have hw296_0 := hx296_0
         obtain rfl : ad294 = ad296 := (by injection e296)
         replace hx296_0 := (HB.out.cell (World.block_lt_of_cell? w _ hx296_0)).trans hx296_0
         replace hx296_1 := (HB.out.cell (World.block_lt_of_cell? w _ hx296_1)).trans hx296_1
         replace hx296_2 := (HB.out.cell (World.block_lt_of_cell? w _ hx296_2)).trans hx296_2
         replace hx296_3 := (HB.out.cell (World.block_lt_of_cell? w _ hx296_3)).trans hx296_3
         have HR296_1 := Aside0.mk hi296_1
         have HC296_1 := Aside0.mk hl296_1
         clear hi296_1 hl296_1
         have HR296_2 := Aside0.mk hi296_2
         have HC296_2 := Aside0.mk hl296_2
         clear hi296_2 hl296_2
         have HR296_3 := Aside0.mk hi296_3
         have HC296_3 := Aside0.mk hl296_3
         clear hi296_3 hl296_3
         replace p296 := eq_true p296
         replace q296 := eq_true q296
         have ea_ := Option.some.inj (hx294_1.symm.trans hx296_1)
         injection ea_ with ea_ en_ ec_
         subst ea_
         subst ec_
         clear en_
         have ea_ := Option.some.inj (hx294_2.symm.trans hx296_2)
         injection ea_ with ea_ en_ ec_
         subst ea_
         subst ec_
         clear en_
         have ea_ := Option.some.inj (hx294_3.symm.trans hx296_3)
         injection ea_ with ea_ en_ ec_
         subst ea_
         subst ec_
         clear en_
         have p297 : 0 ≤ (x5_1 : Int) := of_decide_eq_true (by first | (with_reducible assumption) | assumption)
         have q297 : x5_1 < (l1.length : Int) := of_decide_eq_true (by first | (with_reducible assumption) | assumption)
         obtain ⟨ad297, A297_1, c297_1, A297_2, c297_2, A297_3, c297_3, e297, hx297_0, hx297_1, hx297_2, hx297_3, hl297_1, hi297_1, hl297_2, hi297_2, hl297_3, hi297_3⟩ := at_T43 HR1.out x5_1 p297 q297
         have hw297_3 := hx297_3
         have hw297_2 := hx297_2
         have hw297_1 := hx297_1
         have hw297_0 := hx297_0
         obtain rfl : ad295 = ad297 := (by injection e297)
         replace hx297_0 := (HB.out.cell (World.block_lt_of_cell? w _ hx297_0)).trans hx297_0
         replace hx297_1 := (HB.out.cell (World.block_lt_of_cell? w _ hx297_1)).trans hx297_1
         replace hx297_2 := (HB.out.cell (World.block_lt_of_cell? w _ hx297_2)).trans hx297_2
         replace hx297_3 := (HB.out.cell (World.block_lt_of_cell? w _ hx297_3)).trans hx297_3
         have HR297_1 := Aside0.mk hi297_1
         have HC297_1 := Aside0.mk hl297_1
         clear hi297_1 hl297_1
         have HR297_2 := Aside0.mk hi297_2
         have HC297_2 := Aside0.mk hl297_2
         clear hi297_2 hl297_2
         have HR297_3 := Aside0.mk hi297_3
         have HC297_3 := Aside0.mk hl297_3
         clear hi297_3 hl297_3
         replace p297 := eq_true p297
         replace q297 := eq_true q297
         have ea_ := Option.some.inj (hx295_1.symm.trans hx297_1)
         injection ea_ with ea_ en_ ec_
         subst ea_
         subst ec_
         clear en_
         have ea_ := Option.some.inj (hx295_2.symm.trans hx297_2)
         injection ea_ with ea_ en_ ec_
         subst ea_
         subst ec_
         clear en_
         have ea_ := Option.some.inj (hx295_3.symm.trans hx297_3)
         injection ea_ with ea_ en_ ec_
         subst ea_
         subst ec_
         clear en_
         refine start_ (n := 53) (S := fun w' => w'.cell? (ad294.add ((x5_1).toNat * 4)) = some (.int .u8 ((rd_T43 l0 x5_1).f0)) ∧ w'.cell? ⟨(ad294.add ((x5_1).toNat * 4)).block, (ad294.add ((x5_1).toNat * 4)).off + 1, none⟩ = some (.slice A294_1 ((rd_T43 l0 x5_1).f1).length c294_1) ∧ w'.cell? ⟨(ad294.add ((x5_1).toNat * 4)).block, (ad294.add ((x5_1).toNat * 4)).off + 2, none⟩ = some (.slice A294_2 ((rd_T43 l0 x5_1).f2).length c294_2) ∧ w'.cell? ⟨(ad294.add ((x5_1).toNat * 4)).block, (ad294.add ((x5_1).toNat * 4)).off + 3, none⟩ = some (.slice A294_3 ((rd_T43 l0 x5_1).f3).length c294_3) ∧ w'.cell? (ad295.add ((x5_1).toNat * 4)) = some (.int .u8 ((rd_T43 l1 x5_1).f0)) ∧ w'.cell? ⟨(ad295.add ((x5_1).toNat * 4)).block, (ad295.add ((x5_1).toNat * 4)).off + 1, none⟩ = some (.slice A295_1 ((rd_T43 l1 x5_1).f1).length c295_1) ∧ w'.cell? ⟨(ad295.add ((x5_1).toNat * 4)).block, (ad295.add ((x5_1).toNat * 4)).off + 2, none⟩ = some (.slice A295_2 ((rd_T43 l1 x5_1).f2).length c295_2) ∧ w'.cell? ⟨(ad295.add ((x5_1).toNat * 4)).block, (ad295.add ((x5_1).toNat * 4)).off + 3, none⟩ = some (.slice A295_3 ((rd_T43 l1 x5_1).f3).length c295_3) ∧ w'.cell? (ad294.add ((x5_1).toNat * 4)) = some (.int .u8 ((rd_T43 l0 x5_1).f0)) ∧ w'.cell? ⟨(ad294.add ((x5_1).toNat * 4)).block, (ad294.add ((x5_1).toNat * 4)).off + 1, none⟩ = some (.slice A294_1 ((rd_T43 l0 x5_1).f1).length c294_1) ∧ w'.cell? ⟨(ad294.add ((x5_1).toNat * 4)).block, (ad294.add ((x5_1).toNat * 4)).off + 2, none⟩ = some (.slice A294_2 ((rd_T43 l0 x5_1).f2).length c294_2) ∧ w'.cell? ⟨(ad294.add ((x5_1).toNat * 4)).block, (ad294.add ((x5_1).toNat * 4)).off + 3, none⟩ = some (.slice A294_3 ((rd_T43 l0 x5_1).f3).length c294_3) ∧ w'.cell? (ad295.add ((x5_1).toNat * 4)) = some (.int .u8 ((rd_T43 l1 x5_1).f0)) ∧ w'.cell? ⟨(ad295.add ((x5_1).toNat * 4)).block, (ad295.add ((x5_1).toNat * 4)).off + 1, none⟩ = some (.slice A295_1 ((rd_T43 l1 x5_1).f1).length c295_1) ∧ w'.cell? ⟨(ad295.add ((x5_1).toNat * 4)).block, (ad295.add ((x5_1).toNat * 4)).off + 2, none⟩ = some (.slice A295_2 ((rd_T43 l1 x5_1).f2).length c295_2) ∧ w'.cell? ⟨(ad295.add ((x5_1).toNat * 4)).block, (ad295.add ((x5_1).toNat * 4)).off + 3, none⟩ = some (.slice A295_3 ((rd_T43 l1 x5_1).f3).length c295_3)) (ds := []) Bz0 (by kernel_rfl) rfl rfl ⟨((HB.out.cell (World.block_lt_of_cell? w _ hw294_0)).trans hw294_0), ((HB.out.cell (World.block_lt_of_cell? w _ hw294_1)).trans hw294_1), ((HB.out.cell (World.block_lt_of_cell? w _ hw294_2)).trans hw294_2), ((HB.out.cell (World.block_lt_of_cell? w _ hw294_3)).trans hw294_3), ((HB.out.cell (World.block_lt_of_cell? w _ hw295_0)).trans hw295_0), ((HB.out.cell (World.block_lt_of_cell? w _ hw295_1)).trans hw295_1), ((HB.out.cell (World.block_lt_of_cell? w _ hw295_2)).trans hw295_2), ((HB.out.cell (World.block_lt_of_cell? w _ hw295_3)).trans hw295_3), ((HB.out.cell (World.block_lt_of_cell? w _ hw296_0)).trans hw296_0), ((HB.out.cell (World.block_lt_of_cell? w _ hw296_1)).trans hw296_1), ((HB.out.cell (World.block_lt_of_cell? w _ hw296_2)).trans hw296_2), ((HB.out.cell (World.block_lt_of_cell? w _ hw296_3)).trans hw296_3), ((HB.out.cell (World.block_lt_of_cell? w _ hw297_0)).trans hw297_0), ((HB.out.cell (World.block_lt_of_cell? w _ hw297_1)).trans hw297_1), ((HB.out.cell (World.block_lt_of_cell? w _ hw297_2)).trans hw297_2), ((HB.out.cell (World.block_lt_of_cell? w _ hw297_3)).trans hw297_3)⟩ (fun hHeld => ?_); refine with_tabW sidingref18_Same.tab6 sidingref18_Same.bits6 (fun HT_ HW_ => ?_)
         generalize wr.drew = w17 at HB HR294_1 HR294_2 HR294_3 HR295_1 HR295_2 HR295_3 HR296_1 HR296_2 HR296_3 HR297_1 HR297_2 HR297_3 hx294_0 hx294_1 hx294_2 hx294_3 hx295_0 hx295_1 hx295_2 hx295_3 hx296_0 hx296_1 hx296_2 hx296_3 hx297_0 hx297_1 hx297_2 hx297_3 hHeld ⊢
         refine pu 0 17 Bz1 rfl rfl (any_of HT_.out (by kernel_rfl)) ?_
         refine pu 1 18 Bz2 rfl rfl (any_of HT_.out (by kernel_rfl)) ?_
         refine pu 2 19 Bz3 rfl rfl (any_of HT_.out (by kernel_rfl)) ?_
         refine pu 3 20 Bz4 rfl rfl (any_of HT_.out (by kernel_rfl)) ?_
         refine pu 5 22 Bz5 rfl rfl (any_of HT_.out (by kernel_rfl)) ?_
         refine pu 6 23 Bz6 rfl rfl (any_of HT_.out (by kernel_rfl)) ?_
         refine pu 7 24 Bz7 rfl rfl (any_of HT_.out (by kernel_rfl)) ?_
         refine pu 8 25 Bz8 rfl rfl (any_of HT_.out (by kernel_rfl)) ?_
         refine take_ (i := 4) (N := some 21) (v := ?_) (a' := ?_) Bz9 rfl rfl (take_ofW HT_.out HW_.out (by kernel_rfl)) (fun _ _ _ h => h) (Or.inl ⟨by rfl, ?_⟩) hHeld ?_ ?_; rotate_left; (focus rintro w' ⟨s0, s1, s2, s3, s4, s5, s6, s7, s8, s9, s10, s11, s12, s13, s14, s15⟩; go_simp; with_reducible rfl); rotate_left; (focus go_simp; rfl)
         refine take_ (i := 9) (N := some 26) (v := ?_) (a' := ?_) Bz10 rfl rfl (take_ofW HT_.out HW_.out (by kernel_rfl)) (fun _ _ _ h => h) (Or.inl ⟨by rfl, ?_⟩) hHeld ?_ ?_; rotate_left; (focus rintro w' ⟨s0, s1, s2, s3, s4, s5, s6, s7, s8, s9, s10, s11, s12, s13, s14, s15⟩; go_simp; with_reducible rfl); rotate_left; (focus go_simp; rfl)
         refine pu 10 27 Bz11 rfl rfl (any_of HT_.out (by kernel_rfl)) ?_
         refine pu 11 28 Bz12 rfl rfl (any_of HT_.out (by kernel_rfl)) ?_
         refine pu 12 29 Bz13 rfl rfl (any_of HT_.out (by kernel_rfl)) ?_
         refine pu 13 30 Bz14 rfl rfl (any_of HT_.out (by kernel_rfl)) ?_
         refine pu 14 31 Bz15 rfl rfl (any_of HT_.out (by kernel_rfl)) ?_
         refine pu 15 32 Bz16 rfl rfl (any_of HT_.out (by kernel_rfl)) ?_
         refine pu 17 34 Bz17 rfl rfl (any_of HT_.out (by kernel_rfl)) ?_
         refine pu 18 35 Bz18 rfl rfl (any_of HT_.out (by kernel_rfl)) ?_
         refine pu 19 36 Bz19 rfl rfl (any_of HT_.out (by kernel_rfl)) ?_
         refine pu 20 37 Bz20 rfl rfl (any_of HT_.out (by kernel_rfl)) ?_
         refine take_ (i := 16) (N := some 33) (v := ?_) (a' := ?_) Bz21 rfl rfl (take_ofW HT_.out HW_.out (by kernel_rfl)) (fun _ _ _ h => h) (Or.inl ⟨by rfl, ?_⟩) hHeld ?_ ?_; rotate_left; (focus rintro w' ⟨s0, s1, s2, s3, s4, s5, s6, s7, s8, s9, s10, s11, s12, s13, s14, s15⟩; go_simp; with_reducible rfl); rotate_left; (focus go_simp; rfl)
         refine take_ (i := 21) (N := some 38) (v := ?_) (a' := ?_) Bz22 rfl rfl (take_ofW HT_.out HW_.out (by kernel_rfl)) (fun _ _ _ h => h) (Or.inl ⟨by rfl, ?_⟩) hHeld ?_ ?_; rotate_left; (focus rintro w' ⟨s0, s1, s2, s3, s4, s5, s6, s7, s8, s9, s10, s11, s12, s13, s14, s15⟩; go_simp; with_reducible rfl); rotate_left; (focus go_simp; rfl)
         refine one_ (i := 22) (N := some 39) Bz23 rfl rfl (one_of HT_.out (by kernel_rfl)) (by decide) (fun K hK => ?_)
         refine goes_ Tryd.func16 (by kernel_rfl) rfl #[.slice A294_1 ((rd_T43 l0 x5_1).f1).length c294_1, .slice A295_1 ((rd_T43 l1 x5_1).f1).length c295_1] (by rfl) rfl rfl (by (try simp only [List.map_toArray, List.map_cons, List.map_nil]); first | done | rfl | (simp only [List.length_drop, List.length_take]; rfl)) ?_
         with_reducible refine (sidingref13_Same.calls k1 _ _ ((rd_T43 l0 x5_1).f1) _ _ ((rd_T43 l1 x5_1).f1) false _ ?side1 ?side2 ?side3 ?side4 A8.out).mono ?_
         (case side1 => repeat (first | exact (Kd.C_below HR296_1.out HB.out) | (with_reducible refine Kd.C_alloc ?_ _) | (with_reducible refine Kd.C_drewN ?_ _) | (with_reducible refine Kd.C_drew ?_)))
         (case side2 => exact HC296_1.out)
         (case side3 => repeat (first | exact (Kd.C_below HR297_1.out HB.out) | (with_reducible refine Kd.C_alloc ?_ _) | (with_reducible refine Kd.C_drewN ?_ _) | (with_reducible refine Kd.C_drew ?_)))
         (case side4 => exact HC297_1.out)
         rintro e w' ⟨rfl, ⟨nd, rfl⟩⟩
         refine ⟨_, rfl, ?_⟩
         refine hK.out _ _ ⟨((HB.out.cell (World.block_lt_of_cell? w _ hw294_0)).trans hw294_0), ((HB.out.cell (World.block_lt_of_cell? w _ hw294_1)).trans hw294_1), ((HB.out.cell (World.block_lt_of_cell? w _ hw294_2)).trans hw294_2), ((HB.out.cell (World.block_lt_of_cell? w _ hw294_3)).trans hw294_3), ((HB.out.cell (World.block_lt_of_cell? w _ hw295_0)).trans hw295_0), ((HB.out.cell (World.block_lt_of_cell? w _ hw295_1)).trans hw295_1), ((HB.out.cell (World.block_lt_of_cell? w _ hw295_2)).trans hw295_2), ((HB.out.cell (World.block_lt_of_cell? w _ hw295_3)).trans hw295_3), ((HB.out.cell (World.block_lt_of_cell? w _ hw296_0)).trans hw296_0), ((HB.out.cell (World.block_lt_of_cell? w _ hw296_1)).trans hw296_1), ((HB.out.cell (World.block_lt_of_cell? w _ hw296_2)).trans hw296_2), ((HB.out.cell (World.block_lt_of_cell? w _ hw296_3)).trans hw296_3), ((HB.out.cell (World.block_lt_of_cell? w _ hw297_0)).trans hw297_0), ((HB.out.cell (World.block_lt_of_cell? w _ hw297_1)).trans hw297_1), ((HB.out.cell (World.block_lt_of_cell? w _ hw297_2)).trans hw297_2), ((HB.out.cell (World.block_lt_of_cell? w _ hw297_3)).trans hw297_3)⟩ (fun hHeld => ?_)
         clear hK K
         refine norm_ (a' := ?_) ?_ ?_
         rotate_left
         ·show Act.put _ (some 39) _ = _
          simp only [Act.put, List.setIfInBounds_toArray, List.set_cons_zero, List.set_cons_succ, i64_w, i32_w]
          rfl
         refine pu 23 40 Bz24 rfl rfl (any_of HT_.out (by kernel_rfl)) ?_
         refine pu 24 41 Bz25 rfl rfl (any_of HT_.out (by kernel_rfl)) ?_
         refine pu 25 42 Bz26 rfl rfl (any_of HT_.out (by kernel_rfl)) ?_
         refine po 26 43 Bz27 rfl rfl (any_of HT_.out (by kernel_rfl)) ?_
         refine po 27 44 Bz28 rfl rfl (any_of HT_.out (by kernel_rfl)) ?_
         refine po 28 45 Bz29 rfl rfl (any_of HT_.out (by kernel_rfl)) ?_
         refine po 29 46 Bz30 rfl rfl (any_of HT_.out (by kernel_rfl)) ?_
         refine po 30 47 Bz58 rfl rfl (any_of HT_.out (by kernel_rfl)) ?_
         refine po 31 48 Bz59 rfl rfl (any_of HT_.out (by kernel_rfl)) ?_
         refine po 32 49 Bz60 rfl rfl (any_of HT_.out (by kernel_rfl)) ?_
         refine po 33 50 Bz61 rfl rfl (any_of HT_.out (by kernel_rfl)) ?_
         refine po 34 51 Bz35 rfl rfl (any_of HT_.out (by kernel_rfl)) ?_
         refine po 35 52 Bz36 rfl rfl (any_of HT_.out (by kernel_rfl)) ?_
         refine po 36 53 Bz37 rfl rfl (any_of HT_.out (by kernel_rfl)) ?_
         refine po 37 54 Bz38 rfl rfl (any_of HT_.out (by kernel_rfl)) ?_
         refine pu 38 55 Bz39 rfl rfl (any_of HT_.out (by kernel_rfl)) ?_
         refine pu 39 56 Bz40 rfl rfl (any_of HT_.out (by kernel_rfl)) ?_
         refine po 40 57 Bz41 rfl rfl (any_of HT_.out (by kernel_rfl)) ?_
         refine po 41 58 Bz42 rfl rfl (any_of HT_.out (by kernel_rfl)) ?_
         refine po 42 59 Bz43 rfl rfl (any_of HT_.out (by kernel_rfl)) ?_
         refine po 43 60 Bz44 rfl rfl (any_of HT_.out (by kernel_rfl)) ?_
         refine po 44 61 Bz54 rfl rfl (any_of HT_.out (by kernel_rfl)) ?_
         refine po 45 62 Bz55 rfl rfl (any_of HT_.out (by kernel_rfl)) ?_
         refine po 46 63 Bz56 rfl rfl (any_of HT_.out (by kernel_rfl)) ?_
         refine po 47 64 Bz57 rfl rfl (any_of HT_.out (by kernel_rfl)) ?_
         refine po 48 65 Bz49 rfl rfl (any_of HT_.out (by kernel_rfl)) ?_
         refine po 49 66 Bz50 rfl rfl (any_of HT_.out (by kernel_rfl)) ?_
         refine po 50 67 Bz51 rfl rfl (any_of HT_.out (by kernel_rfl)) ?_
         refine po 51 68 Bz52 rfl rfl (any_of HT_.out (by kernel_rfl)) ?_
         refine pu 52 69 Bz53 rfl rfl (any_of HT_.out (by kernel_rfl)) ?_
         refine done_ (done_of HT_.out (by kernel_rfl)) ?_
         try go_wp2
         go_ret
         exact ⟨by first | rfl | (simp [errW_none, errW_some] <;> rfl) | (simp [*, errW_none, errW_some] <;> rfl), by repeat (first | (with_reducible first | exact HB.out | apply below_alloc | apply pw_below_drewN | apply below_drew1) | exact HB.out)⟩
       ·rw [if_neg c7] at H
        have c7b0 : (((rd_T43 l0 x5_1).f0) == ((rd_T43 l1 x5_1).f0)) = false := beq_eq_false_iff_ne.mpr c7
        have c7b1 : (((rd_T43 l0 x5_1).f0) != ((rd_T43 l1 x5_1).f0)) = true := bne_iff_ne.mpr c7
        obtain rfl := Option.some.inj H
        try go_wp2
        have n0_ := Aside0.mk (below_drew1 HB.out)
        clear HB
        have HB := n0_
        clear n0_
        have p294 : 0 ≤ (x5_1 : Int) := of_decide_eq_true (by first | (with_reducible assumption) | assumption)
        have q294 : x5_1 < (l0.length : Int) := of_decide_eq_true (by first | (with_reducible assumption) | assumption)
        obtain ⟨ad294, A294_1, c294_1, A294_2, c294_2, A294_3, c294_3, e294, hx294_0, hx294_1, hx294_2, hx294_3, hl294_1, hi294_1, hl294_2, hi294_2, hl294_3, hi294_3⟩ := at_T43 HR0.out x5_1 p294 q294
        have hw294_3 := hx294_3
        have hw294_2 := hx294_2
        have hw294_1 := hx294_1
        have hw294_0 := hx294_0
        cases e294
        replace hx294_0 := (HB.out.cell (World.block_lt_of_cell? w _ hx294_0)).trans hx294_0
        replace hx294_1 := (HB.out.cell (World.block_lt_of_cell? w _ hx294_1)).trans hx294_1
        replace hx294_2 := (HB.out.cell (World.block_lt_of_cell? w _ hx294_2)).trans hx294_2
        replace hx294_3 := (HB.out.cell (World.block_lt_of_cell? w _ hx294_3)).trans hx294_3
        have HR294_1 := Aside0.mk hi294_1
        have HC294_1 := Aside0.mk hl294_1
        clear hi294_1 hl294_1
        have HR294_2 := Aside0.mk hi294_2
        have HC294_2 := Aside0.mk hl294_2
        clear hi294_2 hl294_2
        have HR294_3 := Aside0.mk hi294_3
        have HC294_3 := Aside0.mk hl294_3
        clear hi294_3 hl294_3
        replace p294 := eq_true p294
        replace q294 := eq_true q294
        have p295 : 0 ≤ (x5_1 : Int) := of_decide_eq_true (by first | (with_reducible assumption) | assumption)
        have q295 : x5_1 < (l1.length : Int) := of_decide_eq_true (by first | (with_reducible assumption) | assumption)
        obtain ⟨ad295, A295_1, c295_1, A295_2, c295_2, A295_3, c295_3, e295, hx295_0, hx295_1, hx295_2, hx295_3, hl295_1, hi295_1, hl295_2, hi295_2, hl295_3, hi295_3⟩ := at_T43 HR1.out x5_1 p295 q295
        have hw295_3 := hx295_3
        have hw295_2 := hx295_2
        have hw295_1 := hx295_1
        have hw295_0 := hx295_0
        cases e295
        replace hx295_0 := (HB.out.cell (World.block_lt_of_cell? w _ hx295_0)).trans hx295_0
        replace hx295_1 := (HB.out.cell (World.block_lt_of_cell? w _ hx295_1)).trans hx295_1
        replace hx295_2 := (HB.out.cell (World.block_lt_of_cell? w _ hx295_2)).trans hx295_2
        replace hx295_3 := (HB.out.cell (World.block_lt_of_cell? w _ hx295_3)).trans hx295_3
        have HR295_1 := Aside0.mk hi295_1
        have HC295_1 := Aside0.mk hl295_1
        clear hi295_1 hl295_1
        have HR295_2 := Aside0.mk hi295_2
        have HC295_2 := Aside0.mk hl295_2
        clear hi295_2 hl295_2
        have HR295_3 := Aside0.mk hi295_3
        have HC295_3 := Aside0.mk hl295_3
        clear hi295_3 hl295_3
        replace p295 := eq_true p295
        replace q295 := eq_true q295
        refine start_ (n := 53) (S := fun w' => w'.cell? (ad294.add ((x5_1).toNat * 4)) = some (.int .u8 ((rd_T43 l0 x5_1).f0)) ∧ w'.cell? ⟨(ad294.add ((x5_1).toNat * 4)).block, (ad294.add ((x5_1).toNat * 4)).off + 1, none⟩ = some (.slice A294_1 ((rd_T43 l0 x5_1).f1).length c294_1) ∧ w'.cell? ⟨(ad294.add ((x5_1).toNat * 4)).block, (ad294.add ((x5_1).toNat * 4)).off + 2, none⟩ = some (.slice A294_2 ((rd_T43 l0 x5_1).f2).length c294_2) ∧ w'.cell? ⟨(ad294.add ((x5_1).toNat * 4)).block, (ad294.add ((x5_1).toNat * 4)).off + 3, none⟩ = some (.slice A294_3 ((rd_T43 l0 x5_1).f3).length c294_3) ∧ w'.cell? (ad295.add ((x5_1).toNat * 4)) = some (.int .u8 ((rd_T43 l1 x5_1).f0)) ∧ w'.cell? ⟨(ad295.add ((x5_1).toNat * 4)).block, (ad295.add ((x5_1).toNat * 4)).off + 1, none⟩ = some (.slice A295_1 ((rd_T43 l1 x5_1).f1).length c295_1) ∧ w'.cell? ⟨(ad295.add ((x5_1).toNat * 4)).block, (ad295.add ((x5_1).toNat * 4)).off + 2, none⟩ = some (.slice A295_2 ((rd_T43 l1 x5_1).f2).length c295_2) ∧ w'.cell? ⟨(ad295.add ((x5_1).toNat * 4)).block, (ad295.add ((x5_1).toNat * 4)).off + 3, none⟩ = some (.slice A295_3 ((rd_T43 l1 x5_1).f3).length c295_3)) (ds := []) Bz0 (by kernel_rfl) rfl rfl ⟨((HB.out.cell (World.block_lt_of_cell? w _ hw294_0)).trans hw294_0), ((HB.out.cell (World.block_lt_of_cell? w _ hw294_1)).trans hw294_1), ((HB.out.cell (World.block_lt_of_cell? w _ hw294_2)).trans hw294_2), ((HB.out.cell (World.block_lt_of_cell? w _ hw294_3)).trans hw294_3), ((HB.out.cell (World.block_lt_of_cell? w _ hw295_0)).trans hw295_0), ((HB.out.cell (World.block_lt_of_cell? w _ hw295_1)).trans hw295_1), ((HB.out.cell (World.block_lt_of_cell? w _ hw295_2)).trans hw295_2), ((HB.out.cell (World.block_lt_of_cell? w _ hw295_3)).trans hw295_3)⟩ (fun hHeld => ?_); refine with_tabW sidingref18_Same.tab6 sidingref18_Same.bits6 (fun HT_ HW_ => ?_)
        generalize wr.drew = w18 at HB HR294_1 HR294_2 HR294_3 HR295_1 HR295_2 HR295_3 hx294_0 hx294_1 hx294_2 hx294_3 hx295_0 hx295_1 hx295_2 hx295_3 hHeld ⊢
        refine pu 0 17 Bz1 rfl rfl (any_of HT_.out (by kernel_rfl)) ?_
        refine pu 1 18 Bz2 rfl rfl (any_of HT_.out (by kernel_rfl)) ?_
        refine pu 2 19 Bz3 rfl rfl (any_of HT_.out (by kernel_rfl)) ?_
        refine pu 3 20 Bz4 rfl rfl (any_of HT_.out (by kernel_rfl)) ?_
        refine pu 5 22 Bz5 rfl rfl (any_of HT_.out (by kernel_rfl)) ?_
        refine pu 6 23 Bz6 rfl rfl (any_of HT_.out (by kernel_rfl)) ?_
        refine pu 7 24 Bz7 rfl rfl (any_of HT_.out (by kernel_rfl)) ?_
        refine pu 8 25 Bz8 rfl rfl (any_of HT_.out (by kernel_rfl)) ?_
        refine take_ (i := 4) (N := some 21) (v := ?_) (a' := ?_) Bz9 rfl rfl (take_ofW HT_.out HW_.out (by kernel_rfl)) (fun _ _ _ h => h) (Or.inl ⟨by rfl, ?_⟩) hHeld ?_ ?_; rotate_left; (focus rintro w' ⟨s0, s1, s2, s3, s4, s5, s6, s7⟩; go_simp; with_reducible rfl); rotate_left; (focus go_simp; rfl)
        refine take_ (i := 9) (N := some 26) (v := ?_) (a' := ?_) Bz10 rfl rfl (take_ofW HT_.out HW_.out (by kernel_rfl)) (fun _ _ _ h => h) (Or.inl ⟨by rfl, ?_⟩) hHeld ?_ ?_; rotate_left; (focus rintro w' ⟨s0, s1, s2, s3, s4, s5, s6, s7⟩; go_simp; with_reducible rfl); rotate_left; (focus go_simp; rfl)
        refine pu 10 27 Bz11 rfl rfl (any_of HT_.out (by kernel_rfl)) ?_
        refine pu 11 28 Bz12 rfl rfl (any_of HT_.out (by kernel_rfl)) ?_
        refine po 12 29 Bz13 rfl rfl (any_of HT_.out (by kernel_rfl)) ?_
        refine po 13 30 Bz14 rfl rfl (any_of HT_.out (by kernel_rfl)) ?_
        refine po 14 31 Bz15 rfl rfl (any_of HT_.out (by kernel_rfl)) ?_
        refine po 15 32 Bz16 rfl rfl (any_of HT_.out (by kernel_rfl)) ?_
        refine po 16 33 #[true, true, true, true, true, true, true, true, true, true, true, true, true, true, true, true, true, false, false, false, false, false, false, false, false, false, false, false, false, false, false, false, false, false, false, false, false, false, false, false, false, false, false, false, false, false, false, false, false, false, false, false, false] rfl rfl (any_of HT_.out (by kernel_rfl)) ?_
        refine po 17 34 #[true, true, true, true, true, true, true, true, true, true, true, true, true, true, true, true, true, true, false, false, false, false, false, false, false, false, false, false, false, false, false, false, false, false, false, false, false, false, false, false, false, false, false, false, false, false, false, false, false, false, false, false, false] rfl rfl (any_of HT_.out (by kernel_rfl)) ?_
        refine po 18 35 #[true, true, true, true, true, true, true, true, true, true, true, true, true, true, true, true, true, true, true, false, false, false, false, false, false, false, false, false, false, false, false, false, false, false, false, false, false, false, false, false, false, false, false, false, false, false, false, false, false, false, false, false, false] rfl rfl (any_of HT_.out (by kernel_rfl)) ?_
        refine po 19 36 #[true, true, true, true, true, true, true, true, true, true, true, true, true, true, true, true, true, true, true, true, false, false, false, false, false, false, false, false, false, false, false, false, false, false, false, false, false, false, false, false, false, false, false, false, false, false, false, false, false, false, false, false, false] rfl rfl (any_of HT_.out (by kernel_rfl)) ?_
        refine po 20 37 Bz21 rfl rfl (any_of HT_.out (by kernel_rfl)) ?_
        refine po 21 38 Bz22 rfl rfl (any_of HT_.out (by kernel_rfl)) ?_
        refine po 22 39 Bz23 rfl rfl (any_of HT_.out (by kernel_rfl)) ?_
        refine po 23 40 Bz24 rfl rfl (any_of HT_.out (by kernel_rfl)) ?_
        refine pu 24 41 Bz25 rfl rfl (any_of HT_.out (by kernel_rfl)) ?_
        refine pu 25 42 Bz26 rfl rfl (any_of HT_.out (by kernel_rfl)) ?_
        refine po 26 43 Bz27 rfl rfl (any_of HT_.out (by kernel_rfl)) ?_
        refine po 27 44 Bz28 rfl rfl (any_of HT_.out (by kernel_rfl)) ?_
        refine po 28 45 Bz29 rfl rfl (any_of HT_.out (by kernel_rfl)) ?_
        refine po 29 46 Bz30 rfl rfl (any_of HT_.out (by kernel_rfl)) ?_
        refine po 30 47 Bz58 rfl rfl (any_of HT_.out (by kernel_rfl)) ?_
        refine po 31 48 Bz59 rfl rfl (any_of HT_.out (by kernel_rfl)) ?_
        refine po 32 49 Bz60 rfl rfl (any_of HT_.out (by kernel_rfl)) ?_
        refine po 33 50 Bz61 rfl rfl (any_of HT_.out (by kernel_rfl)) ?_
        refine po 34 51 Bz35 rfl rfl (any_of HT_.out (by kernel_rfl)) ?_
        refine po 35 52 Bz36 rfl rfl (any_of HT_.out (by kernel_rfl)) ?_
        refine po 36 53 Bz37 rfl rfl (any_of HT_.out (by kernel_rfl)) ?_
        refine po 37 54 Bz38 rfl rfl (any_of HT_.out (by kernel_rfl)) ?_
        refine pu 38 55 Bz39 rfl rfl (any_of HT_.out (by kernel_rfl)) ?_
        refine pu 39 56 Bz40 rfl rfl (any_of HT_.out (by kernel_rfl)) ?_
        refine po 40 57 Bz41 rfl rfl (any_of HT_.out (by kernel_rfl)) ?_
        refine po 41 58 Bz42 rfl rfl (any_of HT_.out (by kernel_rfl)) ?_
        refine po 42 59 Bz43 rfl rfl (any_of HT_.out (by kernel_rfl)) ?_
        refine po 43 60 Bz44 rfl rfl (any_of HT_.out (by kernel_rfl)) ?_
        refine po 44 61 Bz54 rfl rfl (any_of HT_.out (by kernel_rfl)) ?_
        refine po 45 62 Bz55 rfl rfl (any_of HT_.out (by kernel_rfl)) ?_
        refine po 46 63 Bz56 rfl rfl (any_of HT_.out (by kernel_rfl)) ?_
        refine po 47 64 Bz57 rfl rfl (any_of HT_.out (by kernel_rfl)) ?_
        refine po 48 65 Bz49 rfl rfl (any_of HT_.out (by kernel_rfl)) ?_
        refine po 49 66 Bz50 rfl rfl (any_of HT_.out (by kernel_rfl)) ?_
        refine po 50 67 Bz51 rfl rfl (any_of HT_.out (by kernel_rfl)) ?_
        refine po 51 68 Bz52 rfl rfl (any_of HT_.out (by kernel_rfl)) ?_
        refine pu 52 69 Bz53 rfl rfl (any_of HT_.out (by kernel_rfl)) ?_
        refine done_ (done_of HT_.out (by kernel_rfl)) ?_
        try go_wp2
        go_ret
        exact ⟨by first | rfl | (simp [errW_none, errW_some] <;> rfl) | (simp [*, errW_none, errW_some] <;> rfl), by repeat (first | (with_reducible first | exact HB.out | apply below_alloc | apply pw_below_drewN | apply below_drew1) | exact HB.out)⟩
      ·rw [if_neg c6] at H
       exact absurd H (by simp)
     ·rw [if_neg c5] at H
      exact absurd H (by simp)
    ·rw [if_neg c4] at H
     have c4b0 : decide (x5_1 < (l0.length : Int)) = false := decide_eq_false c4
     clear c4
     obtain rfl := Option.some.inj H
     go_wp2
     go_ret
     exact ⟨by first | rfl | (simp [errW_none, errW_some] <;> rfl) | (simp [*, errW_none, errW_some] <;> rfl), by repeat (first | (with_reducible first | exact HB.out | apply below_alloc | apply pw_below_drewN | apply below_drew1) | exact HB.out)⟩
 ·rw [if_neg c3] at H
  have c3b0 : ((l0.length : Int) == (l1.length : Int)) = false := beq_eq_false_iff_ne.mpr c3
  have c3b1 : ((l0.length : Int) != (l1.length : Int)) = true := bne_iff_ne.mpr c3
  have c3b2 : (l0.length == l1.length) = false := by first | simpa using c3 | (simp at c3 ⊢; omega)
  obtain rfl := Option.some.inj H
  go_enter Tryd.func17, Tryd.ntmps17
  go_wp2
  go_ret
  exact ⟨by first | rfl | (simp [errW_none, errW_some] <;> rfl) | (simp [*, errW_none, errW_some] <;> rfl), by repeat (first | (with_reducible first | exact HB.out | apply below_alloc | apply pw_below_drewN | apply below_drew1) | exact HB.out)⟩
end Go.Proofs.YtpklfaglenkdaaaDoor.Pr
