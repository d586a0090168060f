/- Part 12 of the proof of MergeApart: texts put together. -/
import Derived.Test.YtahpbpacjciddaaJMergeApart4
import Derived.Test.YtahpbpacjciddaaJMergeApart5
import Derived.Test.YtahpbpacjciddaaJMergeApart9
import Derived.Test.YtahpbpacjciddaaJMergeApart10
import Derived.Test.YtahpbpacjciddaaJMergeApart11
set_option linter.unusedVariables false
set_option linter.unusedSimpArgs false
section
namespace Go.Proofs.Ytahpbpacjciddaa.Pr
open Go.RowKit Go.Proofs.YtahpbpacjciddaaW.PrintWords Go.Proofs.YtahpbpacjciddaaW.PrintLast Go.Proofs.YtahpbpacjciddaaW.PrintMore
theorem alive18.p : merge_Merge.f 60 ([(⟨#[97]⟩ : ByteArray), (⟨#[98]⟩ : ByteArray), (⟨#[99]⟩ : ByteArray)] : List ByteArray) ([(⟨#[97]⟩ : ByteArray), (⟨#[120]⟩ : ByteArray), (⟨#[99]⟩ : ByteArray)] : List ByteArray) ([(⟨#[97]⟩ : ByteArray), (⟨#[98]⟩ : ByteArray), (⟨#[99]⟩ : ByteArray), (⟨#[100]⟩ : ByteArray)] : List ByteArray) = some (([⟨1, ([(⟨#[97]⟩ : ByteArray)] : List ByteArray), ([(⟨#[97]⟩ : ByteArray)] : List ByteArray), ([(⟨#[97]⟩ : ByteArray)] : List ByteArray)⟩, ⟨2, ([(⟨#[98]⟩ : ByteArray)] : List ByteArray), ([(⟨#[120]⟩ : ByteArray)] : List ByteArray), ([(⟨#[98]⟩ : ByteArray)] : List ByteArray)⟩, ⟨1, ([(⟨#[99]⟩ : ByteArray)] : List ByteArray), ([(⟨#[99]⟩ : ByteArray)] : List ByteArray), ([(⟨#[99]⟩ : ByteArray)] : List ByteArray)⟩, ⟨3, [], [], ([(⟨#[100]⟩ : ByteArray)] : List ByteArray)⟩] : List S34), 0) := by kernel_rfl
theorem alive18.l : merge_Result.f 60 ([⟨1, ([(⟨#[97]⟩ : ByteArray)] : List ByteArray), ([(⟨#[97]⟩ : ByteArray)] : List ByteArray), ([(⟨#[97]⟩ : ByteArray)] : List ByteArray)⟩, ⟨2, ([(⟨#[98]⟩ : ByteArray)] : List ByteArray), ([(⟨#[120]⟩ : ByteArray)] : List ByteArray), ([(⟨#[98]⟩ : ByteArray)] : List ByteArray)⟩, ⟨1, ([(⟨#[99]⟩ : ByteArray)] : List ByteArray), ([(⟨#[99]⟩ : ByteArray)] : List ByteArray), ([(⟨#[99]⟩ : ByteArray)] : List ByteArray)⟩, ⟨3, [], [], ([(⟨#[100]⟩ : ByteArray)] : List ByteArray)⟩] : List S34) = some (([(⟨#[97]⟩ : ByteArray), (⟨#[120]⟩ : ByteArray), (⟨#[99]⟩ : ByteArray), (⟨#[100]⟩ : ByteArray)] : List ByteArray), 0) := by kernel_rfl
theorem alive18.q : merge_Merge.f 60 ([(⟨#[97]⟩ : ByteArray), (⟨#[98]⟩ : ByteArray), (⟨#[99]⟩ : ByteArray)] : List ByteArray) ([(⟨#[97]⟩ : ByteArray), (⟨#[120]⟩ : ByteArray), (⟨#[99]⟩ : ByteArray)] : List ByteArray) ([(⟨#[97]⟩ : ByteArray), (⟨#[121]⟩ : ByteArray), (⟨#[99]⟩ : ByteArray)] : List ByteArray) = some (([⟨1, ([(⟨#[97]⟩ : ByteArray)] : List ByteArray), ([(⟨#[97]⟩ : ByteArray)] : List ByteArray), ([(⟨#[97]⟩ : ByteArray)] : List ByteArray)⟩, ⟨5, ([(⟨#[98]⟩ : ByteArray)] : List ByteArray), ([(⟨#[120]⟩ : ByteArray)] : List ByteArray), ([(⟨#[121]⟩ : ByteArray)] : List ByteArray)⟩, ⟨1, ([(⟨#[99]⟩ : ByteArray)] : List ByteArray), ([(⟨#[99]⟩ : ByteArray)] : List ByteArray), ([(⟨#[99]⟩ : ByteArray)] : List ByteArray)⟩] : List S34), 0) := by kernel_rfl
theorem alive18.h : merge_Result.f 60 ([⟨1, ([(⟨#[97]⟩ : ByteArray)] : List ByteArray), ([(⟨#[97]⟩ : ByteArray)] : List ByteArray), ([(⟨#[97]⟩ : ByteArray)] : List ByteArray)⟩, ⟨5, ([(⟨#[98]⟩ : ByteArray)] : List ByteArray), ([(⟨#[120]⟩ : ByteArray)] : List ByteArray), ([(⟨#[121]⟩ : ByteArray)] : List ByteArray)⟩, ⟨1, ([(⟨#[99]⟩ : ByteArray)] : List ByteArray), ([(⟨#[99]⟩ : ByteArray)] : List ByteArray), ([(⟨#[99]⟩ : ByteArray)] : List ByteArray)⟩] : List S34) = some (([] : List ByteArray), 26) := by kernel_rfl
theorem alive18.r : merge_Merge.f 60 ([(⟨#[97]⟩ : ByteArray), (⟨#[98]⟩ : ByteArray), (⟨#[99]⟩ : ByteArray)] : List ByteArray) ([(⟨#[97]⟩ : ByteArray), (⟨#[120]⟩ : ByteArray), (⟨#[99]⟩ : ByteArray)] : List ByteArray) ([(⟨#[97]⟩ : ByteArray), (⟨#[120]⟩ : ByteArray), (⟨#[99]⟩ : ByteArray)] : List ByteArray) = some (([⟨1, ([(⟨#[97]⟩ : ByteArray)] : List ByteArray), ([(⟨#[97]⟩ : ByteArray)] : List ByteArray), ([(⟨#[97]⟩ : ByteArray)] : List ByteArray)⟩, ⟨4, ([(⟨#[98]⟩ : ByteArray)] : List ByteArray), ([(⟨#[120]⟩ : ByteArray)] : List ByteArray), ([(⟨#[120]⟩ : ByteArray)] : List ByteArray)⟩, ⟨1, ([(⟨#[99]⟩ : ByteArray)] : List ByteArray), ([(⟨#[99]⟩ : ByteArray)] : List ByteArray), ([(⟨#[99]⟩ : ByteArray)] : List ByteArray)⟩] : List S34), 0) := by kernel_rfl
theorem alive18.s1 : sidingref18_Same.f 60 ([⟨1, ([(⟨#[97]⟩ : ByteArray)] : List ByteArray), ([(⟨#[97]⟩ : ByteArray)] : List ByteArray), ([(⟨#[97]⟩ : ByteArray)] : List ByteArray)⟩, ⟨2, ([(⟨#[98]⟩ : ByteArray)] : List ByteArray), ([(⟨#[120]⟩ : ByteArray)] : List ByteArray), ([(⟨#[98]⟩ : ByteArray)] : List ByteArray)⟩, ⟨1, ([(⟨#[99]⟩ : ByteArray)] : List ByteArray), ([(⟨#[99]⟩ : ByteArray)] : List ByteArray), ([(⟨#[99]⟩ : ByteArray)] : List ByteArray)⟩, ⟨3, [], [], ([(⟨#[100]⟩ : ByteArray)] : List ByteArray)⟩] : List S34) ([⟨1, ([(⟨#[97]⟩ : ByteArray)] : List ByteArray), ([(⟨#[97]⟩ : ByteArray)] : List ByteArray), ([(⟨#[97]⟩ : ByteArray)] : List ByteArray)⟩, ⟨2, ([(⟨#[98]⟩ : ByteArray)] : List ByteArray), ([(⟨#[120]⟩ : ByteArray)] : List ByteArray), ([(⟨#[98]⟩ : ByteArray)] : List ByteArray)⟩, ⟨1, ([(⟨#[99]⟩ : ByteArray)] : List ByteArray), ([(⟨#[99]⟩ : ByteArray)] : List ByteArray), ([(⟨#[99]⟩ : ByteArray)] : List ByteArray)⟩, ⟨3, [], [], ([(⟨#[100]⟩ : ByteArray)] : List ByteArray)⟩] : List S34) = some true := by kernel_rfl
theorem alive18.s2 : sidingref13_Same.f 60 ([(⟨#[97]⟩ : ByteArray), (⟨#[120]⟩ : ByteArray), (⟨#[99]⟩ : ByteArray), (⟨#[100]⟩ : ByteArray)] : List ByteArray) ([(⟨#[97]⟩ : ByteArray), (⟨#[120]⟩ : ByteArray), (⟨#[99]⟩ : ByteArray), (⟨#[100]⟩ : ByteArray)] : List ByteArray) = some true := by kernel_rfl
theorem alive18.s3 : sidingref18_Same.f 60 ([⟨1, ([(⟨#[97]⟩ : ByteArray)] : List ByteArray), ([(⟨#[97]⟩ : ByteArray)] : List ByteArray), ([(⟨#[97]⟩ : ByteArray)] : List ByteArray)⟩, ⟨5, ([(⟨#[98]⟩ : ByteArray)] : List ByteArray), ([(⟨#[120]⟩ : ByteArray)] : List ByteArray), ([(⟨#[121]⟩ : ByteArray)] : List ByteArray)⟩, ⟨1, ([(⟨#[99]⟩ : ByteArray)] : List ByteArray), ([(⟨#[99]⟩ : ByteArray)] : List ByteArray), ([(⟨#[99]⟩ : ByteArray)] : List ByteArray)⟩] : List S34) ([⟨1, ([(⟨#[97]⟩ : ByteArray)] : List ByteArray), ([(⟨#[97]⟩ : ByteArray)] : List ByteArray), ([(⟨#[97]⟩ : ByteArray)] : List ByteArray)⟩, ⟨5, ([(⟨#[98]⟩ : ByteArray)] : List ByteArray), ([(⟨#[120]⟩ : ByteArray)] : List ByteArray), ([(⟨#[121]⟩ : ByteArray)] : List ByteArray)⟩, ⟨1, ([(⟨#[99]⟩ : ByteArray)] : List ByteArray), ([(⟨#[99]⟩ : ByteArray)] : List ByteArray), ([(⟨#[99]⟩ : ByteArray)] : List ByteArray)⟩] : List S34) = some true := by kernel_rfl
theorem alive18.s4 : sidingref18_Same.f 60 ([⟨1, ([(⟨#[97]⟩ : ByteArray)] : List ByteArray), ([(⟨#[97]⟩ : ByteArray)] : List ByteArray), ([(⟨#[97]⟩ : ByteArray)] : List ByteArray)⟩, ⟨4, ([(⟨#[98]⟩ : ByteArray)] : List ByteArray), ([(⟨#[120]⟩ : ByteArray)] : List ByteArray), ([(⟨#[120]⟩ : ByteArray)] : List ByteArray)⟩, ⟨1, ([(⟨#[99]⟩ : ByteArray)] : List ByteArray), ([(⟨#[99]⟩ : ByteArray)] : List ByteArray), ([(⟨#[99]⟩ : ByteArray)] : List ByteArray)⟩] : List S34) ([⟨1, ([(⟨#[97]⟩ : ByteArray)] : List ByteArray), ([(⟨#[97]⟩ : ByteArray)] : List ByteArray), ([(⟨#[97]⟩ : ByteArray)] : List ByteArray)⟩, ⟨4, ([(⟨#[98]⟩ : ByteArray)] : List ByteArray), ([(⟨#[120]⟩ : ByteArray)] : List ByteArray), ([(⟨#[120]⟩ : ByteArray)] : List ByteArray)⟩, ⟨1, ([(⟨#[99]⟩ : ByteArray)] : List ByteArray), ([(⟨#[99]⟩ : ByteArray)] : List ByteArray), ([(⟨#[99]⟩ : ByteArray)] : List ByteArray)⟩] : List S34) = some true := by kernel_rfl
def sidinglaw18_alive.f : Option Bool := some true
set_option maxHeartbeats 4000000 in
set_option maxRecDepth 100000 in
theorem alive18_any (w : World) : Calls Try.prog 13 #[] w fun e w' => e = .returned (.bool true) ∧ Below w.heap.size w w' := by
 obtain ⟨w0, rfl⟩ : ∃ w0, w0 = w := ⟨_, rfl⟩
 obtain ⟨yours, hy⟩ : ∃ y : List ByteArray, y = ([(⟨#[97]⟩ : ByteArray), (⟨#[120]⟩ : ByteArray), (⟨#[99]⟩ : ByteArray)] : List ByteArray) := ⟨_, rfl⟩; have Hours := Aside0.mk hy; clear hy
 obtain ⟨yg1, hy⟩ : ∃ y : List ByteArray, y = ([(⟨#[97]⟩ : ByteArray), (⟨#[98]⟩ : ByteArray), (⟨#[99]⟩ : ByteArray)] : List ByteArray) := ⟨_, rfl⟩; have Hg1 := Aside0.mk hy; clear hy
 obtain ⟨yl4, hy⟩ : ∃ y : List ByteArray, y = ([(⟨#[97]⟩ : ByteArray), (⟨#[98]⟩ : ByteArray), (⟨#[99]⟩ : ByteArray), (⟨#[100]⟩ : ByteArray)] : List ByteArray) := ⟨_, rfl⟩; have Hl4 := Aside0.mk hy; clear hy
 obtain ⟨yl, hy⟩ : ∃ y : List ByteArray, y = ([(⟨#[97]⟩ : ByteArray), (⟨#[120]⟩ : ByteArray), (⟨#[99]⟩ : ByteArray), (⟨#[100]⟩ : ByteArray)] : List ByteArray) := ⟨_, rfl⟩; have Hl := Aside0.mk hy; clear hy
 obtain ⟨yg2, hy⟩ : ∃ y : List ByteArray, y = ([(⟨#[97]⟩ : ByteArray), (⟨#[98]⟩ : ByteArray), (⟨#[99]⟩ : ByteArray)] : List ByteArray) := ⟨_, rfl⟩; have Hg2 := Aside0.mk hy; clear hy
 obtain ⟨yl3, hy⟩ : ∃ y : List ByteArray, y = ([(⟨#[97]⟩ : ByteArray), (⟨#[121]⟩ : ByteArray), (⟨#[99]⟩ : ByteArray)] : List ByteArray) := ⟨_, rfl⟩; have Hl3 := Aside0.mk hy; clear hy
 obtain ⟨yh, hy⟩ : ∃ y : List ByteArray, y = ([] : List ByteArray) := ⟨_, rfl⟩; have Hh := Aside0.mk hy; clear hy
 obtain ⟨yg3, hy⟩ : ∃ y : List ByteArray, y = ([(⟨#[97]⟩ : ByteArray), (⟨#[98]⟩ : ByteArray), (⟨#[99]⟩ : ByteArray)] : List ByteArray) := ⟨_, rfl⟩; have Hg3 := Aside0.mk hy; clear hy
 obtain ⟨yone, hy⟩ : ∃ y : List ByteArray, y = ([(⟨#[97]⟩ : ByteArray)] : List ByteArray) := ⟨_, rfl⟩; have Hone := Aside0.mk hy; clear hy
 obtain ⟨ythr, hy⟩ : ∃ y : List ByteArray, y = ([(⟨#[99]⟩ : ByteArray)] : List ByteArray) := ⟨_, rfl⟩; have Hthr := Aside0.mk hy; clear hy
 obtain ⟨yx, hy⟩ : ∃ y : List ByteArray, y = ([(⟨#[120]⟩ : ByteArray)] : List ByteArray) := ⟨_, rfl⟩; have Hx := Aside0.mk hy; clear hy
 obtain ⟨yd, hy⟩ : ∃ y : List ByteArray, y = ([(⟨#[100]⟩ : ByteArray)] : List ByteArray) := ⟨_, rfl⟩; have Hd := Aside0.mk hy; clear hy
 obtain ⟨yb, hy⟩ : ∃ y : List ByteArray, y = ([(⟨#[98]⟩ : ByteArray)] : List ByteArray) := ⟨_, rfl⟩; have Hb := Aside0.mk hy; clear hy
 obtain ⟨yy, hy⟩ : ∃ y : List ByteArray, y = ([(⟨#[121]⟩ : ByteArray)] : List ByteArray) := ⟨_, rfl⟩; have Hy := Aside0.mk hy; clear hy
 obtain ⟨yl5, hy⟩ : ∃ y : List ByteArray, y = ([(⟨#[97]⟩ : ByteArray), (⟨#[120]⟩ : ByteArray), (⟨#[99]⟩ : ByteArray), (⟨#[100]⟩ : ByteArray)] : List ByteArray) := ⟨_, rfl⟩; have Hl5 := Aside0.mk hy; clear hy
 obtain ⟨yp, hy⟩ : ∃ y : List S34, y = ([⟨1, ([(⟨#[97]⟩ : ByteArray)] : List ByteArray), ([(⟨#[97]⟩ : ByteArray)] : List ByteArray), ([(⟨#[97]⟩ : ByteArray)] : List ByteArray)⟩, ⟨2, ([(⟨#[98]⟩ : ByteArray)] : List ByteArray), ([(⟨#[120]⟩ : ByteArray)] : List ByteArray), ([(⟨#[98]⟩ : ByteArray)] : List ByteArray)⟩, ⟨1, ([(⟨#[99]⟩ : ByteArray)] : List ByteArray), ([(⟨#[99]⟩ : ByteArray)] : List ByteArray), ([(⟨#[99]⟩ : ByteArray)] : List ByteArray)⟩, ⟨3, [], [], ([(⟨#[100]⟩ : ByteArray)] : List ByteArray)⟩] : List S34) := ⟨_, rfl⟩; have Hp := Aside0.mk hy; clear hy
 obtain ⟨yq, hy⟩ : ∃ y : List S34, y = ([⟨1, ([(⟨#[97]⟩ : ByteArray)] : List ByteArray), ([(⟨#[97]⟩ : ByteArray)] : List ByteArray), ([(⟨#[97]⟩ : ByteArray)] : List ByteArray)⟩, ⟨5, ([(⟨#[98]⟩ : ByteArray)] : List ByteArray), ([(⟨#[120]⟩ : ByteArray)] : List ByteArray), ([(⟨#[121]⟩ : ByteArray)] : List ByteArray)⟩, ⟨1, ([(⟨#[99]⟩ : ByteArray)] : List ByteArray), ([(⟨#[99]⟩ : ByteArray)] : List ByteArray), ([(⟨#[99]⟩ : ByteArray)] : List ByteArray)⟩] : List S34) := ⟨_, rfl⟩; have Hq := Aside0.mk hy; clear hy
 obtain ⟨yr, hy⟩ : ∃ y : List S34, y = ([⟨1, ([(⟨#[97]⟩ : ByteArray)] : List ByteArray), ([(⟨#[97]⟩ : ByteArray)] : List ByteArray), ([(⟨#[97]⟩ : ByteArray)] : List ByteArray)⟩, ⟨4, ([(⟨#[98]⟩ : ByteArray)] : List ByteArray), ([(⟨#[120]⟩ : ByteArray)] : List ByteArray), ([(⟨#[120]⟩ : ByteArray)] : List ByteArray)⟩, ⟨1, ([(⟨#[99]⟩ : ByteArray)] : List ByteArray), ([(⟨#[99]⟩ : ByteArray)] : List ByteArray), ([(⟨#[99]⟩ : ByteArray)] : List ByteArray)⟩] : List S34) := ⟨_, rfl⟩; have Hr := Aside0.mk hy; clear hy
 obtain ⟨yv1, hy⟩ : ∃ y : List S34, y = ([⟨1, yone, yone, yone⟩, ⟨2, yb, yx, yb⟩, ⟨1, ythr, ythr, ythr⟩, ⟨3, [], [], yd⟩] : List S34) := ⟨_, rfl⟩; have Hv1 := Aside0.mk hy; clear hy
 obtain ⟨yv2, hy⟩ : ∃ y : List S34, y = ([⟨1, yone, yone, yone⟩, ⟨5, yb, yx, yy⟩, ⟨1, ythr, ythr, ythr⟩] : List S34) := ⟨_, rfl⟩; have Hv2 := Aside0.mk hy; clear hy
 obtain ⟨yv3, hy⟩ : ∃ y : List S34, y = ([⟨1, yone, yone, yone⟩, ⟨4, yb, yx, yx⟩, ⟨1, ythr, ythr, ythr⟩] : List S34) := ⟨_, rfl⟩; have Hv3 := Aside0.mk hy; clear hy
 have Qg1 := Aside0.mk (show sidinglaw18_given.f = some yg1 by rw [Hg1.out]; rfl)
 have Qp := Aside0.mk (show merge_Merge.f 60 yg1 yours yl4 = some (yp, 0) by rw [Hg1.out, Hours.out, Hl4.out, Hp.out]; exact alive18.p)
 have Ql := Aside0.mk (show merge_Result.f 60 yp = some (yl, 0) by rw [Hp.out, Hl.out]; exact alive18.l)
 have Qg2 := Aside0.mk (show sidinglaw18_given.f = some yg2 by rw [Hg2.out]; rfl)
 have Qq := Aside0.mk (show merge_Merge.f 60 yg2 yours yl3 = some (yq, 0) by rw [Hg2.out, Hours.out, Hl3.out, Hq.out]; exact alive18.q)
 have Qh := Aside0.mk (show merge_Result.f 60 yq = some (yh, 26) by rw [Hq.out, Hh.out]; exact alive18.h)
 have Qg3 := Aside0.mk (show sidinglaw18_given.f = some yg3 by rw [Hg3.out]; rfl)
 have Qr := Aside0.mk (show merge_Merge.f 60 yg3 yours yours = some (yr, 0) by rw [Hg3.out, Hours.out, Hr.out]; exact alive18.r)
 have Qs1 := Aside0.mk (show sidingref18_Same.f 60 yp yv1 = some true by rw [Hp.out, Hv1.out, Hone.out, Hb.out, Hx.out, Hthr.out, Hd.out]; exact alive18.s1)
 have Qs2 := Aside0.mk (show sidingref13_Same.f 60 yl yl5 = some true by rw [Hl.out, Hl5.out]; exact alive18.s2)
 have Qs3 := Aside0.mk (show sidingref18_Same.f 60 yq yv2 = some true by rw [Hq.out, Hv2.out, Hone.out, Hb.out, Hx.out, Hy.out, Hthr.out]; exact alive18.s3)
 have Qs4 := Aside0.mk (show sidingref18_Same.f 60 yr yv3 = some true by rw [Hr.out, Hv3.out, Hone.out, Hb.out, Hx.out, Hthr.out]; exact alive18.s4)
 go_enter Try.func13, Try.ntmps13
 go_upto_region 2 with (first | ((with_reducible refine gate_dst (N := 21) rfl ?_); (try (refine gate_guard (by rfl) ?_; dsimp only)); refine Kd.R_lit Kd.string _ 9 ?hg (N := 21) ?hd (xs := ([(⟨#[97]⟩ : ByteArray), (⟨#[120]⟩ : ByteArray), (⟨#[99]⟩ : ByteArray)] : List ByteArray)) (inner := [.string (⟨#[97]⟩ : ByteArray), .string (⟨#[120]⟩ : ByteArray), .string (⟨#[99]⟩ : ByteArray)]) (ok := fun _ => True) (okp := fun _ => True) ?hr ?hp (fun _ hk => hk) trivial (Below.refl _ _) (Nat.le_refl _) (by simp) ?_; (case hd => rfl); (case hg => rfl); (case hr => first | (go_simp; done) | (go_simp; rfl)); (case hp => exact (Reps.one (show Kd.M Kd.string _ _ _ (⟨#[97]⟩ : ByteArray) [.string (⟨#[97]⟩ : ByteArray)] from rfl) (Reps.one (show Kd.M Kd.string _ _ _ (⟨#[120]⟩ : ByteArray) [.string (⟨#[120]⟩ : ByteArray)] from rfl) (Reps.one (show Kd.M Kd.string _ _ _ (⟨#[99]⟩ : ByteArray) [.string (⟨#[99]⟩ : ByteArray)] from rfl) (Reps.none _ _))))); intro v w1 ho hb _ _; rw [← Hours.out] at ho; have S1 := Aside0.mk (snc (u := w0) (by repeat (first | exact Below.refl _ _ | apply pw_below_drewN | apply below_drew1)) hb); clear hb; obtain ⟨Aours, cours, rfl, hf⟩ := FF.of ho; have Fours := Aside0.mk hf; clear ho hf))
 go_upto_region 3 with (first | (go_at_call 33; (with_reducible refine (sidinglaw18_given.calls yg1 _ Qg1.out).mono ?_); rintro e_ w2 ⟨v_, rfl, ho, hb⟩; have S2 := Aside0.mk (snc (u := w1) (by repeat (first | exact Below.refl _ _ | apply pw_below_drewN | apply below_drew1)) hb); clear hb; obtain ⟨Ag1, cg1, rfl, hf⟩ := FF.of ho; have Fg1 := Aside0.mk hf; clear ho hf) | ((with_reducible refine gate_dst (N := 25) rfl ?_); (try (refine gate_guard (by rfl) ?_; dsimp only)); refine Kd.R_lit Kd.string _ 9 ?hg (N := 25) ?hd (xs := ([(⟨#[97]⟩ : ByteArray), (⟨#[98]⟩ : ByteArray), (⟨#[99]⟩ : ByteArray), (⟨#[100]⟩ : ByteArray)] : List ByteArray)) (inner := [.string (⟨#[97]⟩ : ByteArray), .string (⟨#[98]⟩ : ByteArray), .string (⟨#[99]⟩ : ByteArray), .string (⟨#[100]⟩ : ByteArray)]) (ok := fun _ => True) (okp := fun _ => True) ?hr ?hp (fun _ hk => hk) trivial (Below.refl _ _) (Nat.le_refl _) (by simp) ?_; (case hd => rfl); (case hg => rfl); (case hr => first | (go_simp; done) | (go_simp; rfl)); (case hp => exact (Reps.one (show Kd.M Kd.string _ _ _ (⟨#[97]⟩ : ByteArray) [.string (⟨#[97]⟩ : ByteArray)] from rfl) (Reps.one (show Kd.M Kd.string _ _ _ (⟨#[98]⟩ : ByteArray) [.string (⟨#[98]⟩ : ByteArray)] from rfl) (Reps.one (show Kd.M Kd.string _ _ _ (⟨#[99]⟩ : ByteArray) [.string (⟨#[99]⟩ : ByteArray)] from rfl) (Reps.one (show Kd.M Kd.string _ _ _ (⟨#[100]⟩ : ByteArray) [.string (⟨#[100]⟩ : ByteArray)] from rfl) (Reps.none _ _)))))); intro v w3 ho hb _ _; rw [← Hl4.out] at ho; have S3 := Aside0.mk (snc (u := w2) (by repeat (first | exact Below.refl _ _ | apply pw_below_drewN | apply below_drew1)) hb); clear hb; obtain ⟨Al4, cl4, rfl, hf⟩ := FF.of ho; have Fl4 := Aside0.mk hf; clear ho hf) | (go_at_call 9; (with_reducible refine (merge_Merge.calls 60 _ _ yg1 _ _ yours _ _ yl4 yp 0 _ (Fg1.out.up (snc S3.out (by repeat (first | exact Below.refl _ _ | apply pw_below_drewN | apply below_drew1)))).C Fg1.out.1 (Fours.out.up (snc (snc S2.out S3.out) (by repeat (first | exact Below.refl _ _ | apply pw_below_drewN | apply below_drew1)))).C Fours.out.1 (Fl4.out.up (by repeat (first | exact Below.refl _ _ | apply pw_below_drewN | apply below_drew1))).C Fl4.out.1 Qp.out).mono ?_); rintro e_ w4 ⟨v_, rfl, ho, hb⟩; have S4 := Aside0.mk (snc (u := w3) (by repeat (first | exact Below.refl _ _ | apply pw_below_drewN | apply below_drew1)) hb); clear hb; obtain ⟨Ap, cp, rfl⟩ := Kd.S_slice ho; have Cp := Aside0.mk (Kd.S_reads' ho).2; clear ho))
 go_upto_region 4 with (first | (go_at_call 15; (with_reducible refine (merge_Result.calls 60 _ _ yp yl 0 _ (Kd.C_below Cp.out.2 (by repeat (first | exact Below.refl _ _ | apply pw_below_drewN | apply below_drew1))) Cp.out.1 Ql.out).mono ?_); rintro e_ w5 ⟨v_, rfl, ho, hb⟩; have S5 := Aside0.mk (snc (u := w4) (by repeat (first | exact Below.refl _ _ | apply pw_below_drewN | apply below_drew1)) hb); clear hb; obtain ⟨Al, cl, rfl, hf⟩ := FF.of ho; have Fl := Aside0.mk hf; clear ho hf))
 go_upto_region 5 with (first | (go_at_call 33; (with_reducible refine (sidinglaw18_given.calls yg2 _ Qg2.out).mono ?_); rintro e_ w6 ⟨v_, rfl, ho, hb⟩; have S6 := Aside0.mk (snc (u := w5) (by repeat (first | exact Below.refl _ _ | apply pw_below_drewN | apply below_drew1)) hb); clear hb; obtain ⟨Ag2, cg2, rfl, hf⟩ := FF.of ho; have Fg2 := Aside0.mk hf; clear ho hf) | ((with_reducible refine gate_dst (N := 37) rfl ?_); (try (refine gate_guard (by rfl) ?_; dsimp only)); refine Kd.R_lit Kd.string _ 9 ?hg (N := 37) ?hd (xs := ([(⟨#[97]⟩ : ByteArray), (⟨#[121]⟩ : ByteArray), (⟨#[99]⟩ : ByteArray)] : List ByteArray)) (inner := [.string (⟨#[97]⟩ : ByteArray), .string (⟨#[121]⟩ : ByteArray), .string (⟨#[99]⟩ : ByteArray)]) (ok := fun _ => True) (okp := fun _ => True) ?hr ?hp (fun _ hk => hk) trivial (Below.refl _ _) (Nat.le_refl _) (by simp) ?_; (case hd => rfl); (case hg => rfl); (case hr => first | (go_simp; done) | (go_simp; rfl)); (case hp => exact (Reps.one (show Kd.M Kd.string _ _ _ (⟨#[97]⟩ : ByteArray) [.string (⟨#[97]⟩ : ByteArray)] from rfl) (Reps.one (show Kd.M Kd.string _ _ _ (⟨#[121]⟩ : ByteArray) [.string (⟨#[121]⟩ : ByteArray)] from rfl) (Reps.one (show Kd.M Kd.string _ _ _ (⟨#[99]⟩ : ByteArray) [.string (⟨#[99]⟩ : ByteArray)] from rfl) (Reps.none _ _))))); intro v w7 ho hb _ _; rw [← Hl3.out] at ho; have S7 := Aside0.mk (snc (u := w6) (by repeat (first | exact Below.refl _ _ | apply pw_below_drewN | apply below_drew1)) hb); clear hb; obtain ⟨Al3, cl3, rfl, hf⟩ := FF.of ho; have Fl3 := Aside0.mk hf; clear ho hf) | (go_at_call 9; (with_reducible refine (merge_Merge.calls 60 _ _ yg2 _ _ yours _ _ yl3 yq 0 _ (Fg2.out.up (snc S7.out (by repeat (first | exact Below.refl _ _ | apply pw_below_drewN | apply below_drew1)))).C Fg2.out.1 (Fours.out.up (snc (snc S2.out (snc S3.out (snc S4.out (snc S5.out (snc S6.out S7.out))))) (by repeat (first | exact Below.refl _ _ | apply pw_below_drewN | apply below_drew1)))).C Fours.out.1 (Fl3.out.up (by repeat (first | exact Below.refl _ _ | apply pw_below_drewN | apply below_drew1))).C Fl3.out.1 Qq.out).mono ?_); rintro e_ w8 ⟨v_, rfl, ho, hb⟩; have S8 := Aside0.mk (snc (u := w7) (by repeat (first | exact Below.refl _ _ | apply pw_below_drewN | apply below_drew1)) hb); clear hb; obtain ⟨Aq, cq, rfl⟩ := Kd.S_slice ho; have Cq := Aside0.mk (Kd.S_reads' ho).2; clear ho))
 go_upto_region 6 with (first | (go_at_call 15; (with_reducible refine (merge_Result.calls 60 _ _ yq yh 26 _ (Kd.C_below Cq.out.2 (by repeat (first | exact Below.refl _ _ | apply pw_below_drewN | apply below_drew1))) Cq.out.1 Qh.out).mono ?_); rintro e_ w9 ⟨v_, rfl, ho, hb⟩; have S9 := Aside0.mk (snc (u := w8) (by repeat (first | exact Below.refl _ _ | apply pw_below_drewN | apply below_drew1)) hb); clear hb; obtain ⟨Ah, ch, rfl, hf⟩ := FF.of ho; have Fh := Aside0.mk hf; clear ho hf))
 go_upto_region 7 with (first | (go_at_call 33; (with_reducible refine (sidinglaw18_given.calls yg3 _ Qg3.out).mono ?_); rintro e_ w10 ⟨v_, rfl, ho, hb⟩; have S10 := Aside0.mk (snc (u := w9) (by repeat (first | exact Below.refl _ _ | apply pw_below_drewN | apply below_drew1)) hb); clear hb; obtain ⟨Ag3, cg3, rfl, hf⟩ := FF.of ho; have Fg3 := Aside0.mk hf; clear ho hf) | (go_at_call 9; (with_reducible refine (merge_Merge.calls 60 _ _ yg3 _ _ yours _ _ yours yr 0 _ (Fg3.out.up (by repeat (first | exact Below.refl _ _ | apply pw_below_drewN | apply below_drew1))).C Fg3.out.1 (Fours.out.up (snc (snc S2.out (snc S3.out (snc S4.out (snc S5.out (snc S6.out (snc S7.out (snc S8.out (snc S9.out S10.out)))))))) (by repeat (first | exact Below.refl _ _ | apply pw_below_drewN | apply below_drew1)))).C Fours.out.1 (Fours.out.up (snc (snc S2.out (snc S3.out (snc S4.out (snc S5.out (snc S6.out (snc S7.out (snc S8.out (snc S9.out S10.out)))))))) (by repeat (first | exact Below.refl _ _ | apply pw_below_drewN | apply below_drew1)))).C Fours.out.1 Qr.out).mono ?_); rintro e_ w11 ⟨v_, rfl, ho, hb⟩; have S11 := Aside0.mk (snc (u := w10) (by repeat (first | exact Below.refl _ _ | apply pw_below_drewN | apply below_drew1)) hb); clear hb; obtain ⟨Ar, cr, rfl⟩ := Kd.S_slice ho; have Cr := Aside0.mk (Kd.S_reads' ho).2; clear ho))
 go_upto_region 8 with (first | ((with_reducible refine gate_dst (N := 53) rfl ?_); (try (refine gate_guard (by rfl) ?_; dsimp only)); refine Kd.R_lit Kd.string _ 9 ?hg (N := 53) ?hd (xs := ([(⟨#[97]⟩ : ByteArray)] : List ByteArray)) (inner := [.string (⟨#[97]⟩ : ByteArray)]) (ok := fun _ => True) (okp := fun _ => True) ?hr ?hp (fun _ hk => hk) trivial (Below.refl _ _) (Nat.le_refl _) (by simp) ?_; (case hd => rfl); (case hg => rfl); (case hr => first | (go_simp; done) | (go_simp; rfl)); (case hp => exact (Reps.one (show Kd.M Kd.string _ _ _ (⟨#[97]⟩ : ByteArray) [.string (⟨#[97]⟩ : ByteArray)] from rfl) (Reps.none _ _))); intro v w12 ho hb _ _; rw [← Hone.out] at ho; have S12 := Aside0.mk (snc (u := w11) (by repeat (first | exact Below.refl _ _ | apply pw_below_drewN | apply below_drew1)) hb); clear hb; obtain ⟨Aone, cone, rfl, hf⟩ := FF.of ho; have Fone := Aside0.mk hf; clear ho hf) | ((with_reducible refine gate_dst (N := 54) rfl ?_); (try (refine gate_guard (by rfl) ?_; dsimp only)); refine Kd.R_lit Kd.string _ 9 ?hg (N := 54) ?hd (xs := ([(⟨#[99]⟩ : ByteArray)] : List ByteArray)) (inner := [.string (⟨#[99]⟩ : ByteArray)]) (ok := fun _ => True) (okp := fun _ => True) ?hr ?hp (fun _ hk => hk) trivial (Below.refl _ _) (Nat.le_refl _) (by simp) ?_; (case hd => rfl); (case hg => rfl); (case hr => first | (go_simp; done) | (go_simp; rfl)); (case hp => exact (Reps.one (show Kd.M Kd.string _ _ _ (⟨#[99]⟩ : ByteArray) [.string (⟨#[99]⟩ : ByteArray)] from rfl) (Reps.none _ _))); intro v w13 ho hb _ _; rw [← Hthr.out] at ho; have S13 := Aside0.mk (snc (u := w12) (by repeat (first | exact Below.refl _ _ | apply pw_below_drewN | apply below_drew1)) hb); clear hb; obtain ⟨Athr, cthr, rfl, hf⟩ := FF.of ho; have Fthr := Aside0.mk hf; clear ho hf) | ((with_reducible refine gate_dst (N := 55) rfl ?_); (try (refine gate_guard (by rfl) ?_; dsimp only)); refine Kd.R_lit Kd.string _ 9 ?hg (N := 55) ?hd (xs := ([(⟨#[120]⟩ : ByteArray)] : List ByteArray)) (inner := [.string (⟨#[120]⟩ : ByteArray)]) (ok := fun _ => True) (okp := fun _ => True) ?hr ?hp (fun _ hk => hk) trivial (Below.refl _ _) (Nat.le_refl _) (by simp) ?_; (case hd => rfl); (case hg => rfl); (case hr => first | (go_simp; done) | (go_simp; rfl)); (case hp => exact (Reps.one (show Kd.M Kd.string _ _ _ (⟨#[120]⟩ : ByteArray) [.string (⟨#[120]⟩ : ByteArray)] from rfl) (Reps.none _ _))); intro v w14 ho hb _ _; rw [← Hx.out] at ho; have S14 := Aside0.mk (snc (u := w13) (by repeat (first | exact Below.refl _ _ | apply pw_below_drewN | apply below_drew1)) hb); clear hb; obtain ⟨Ax, cx, rfl, hf⟩ := FF.of ho; have Fx := Aside0.mk hf; clear ho hf) | ((with_reducible refine gate_dst (N := 56) rfl ?_); (try (refine gate_guard (by rfl) ?_; dsimp only)); refine Kd.R_lit Kd.string _ 9 ?hg (N := 56) ?hd (xs := ([(⟨#[100]⟩ : ByteArray)] : List ByteArray)) (inner := [.string (⟨#[100]⟩ : ByteArray)]) (ok := fun _ => True) (okp := fun _ => True) ?hr ?hp (fun _ hk => hk) trivial (Below.refl _ _) (Nat.le_refl _) (by simp) ?_; (case hd => rfl); (case hg => rfl); (case hr => first | (go_simp; done) | (go_simp; rfl)); (case hp => exact (Reps.one (show Kd.M Kd.string _ _ _ (⟨#[100]⟩ : ByteArray) [.string (⟨#[100]⟩ : ByteArray)] from rfl) (Reps.none _ _))); intro v w15 ho hb _ _; rw [← Hd.out] at ho; have S15 := Aside0.mk (snc (u := w14) (by repeat (first | exact Below.refl _ _ | apply pw_below_drewN | apply below_drew1)) hb); clear hb; obtain ⟨Ad, cd, rfl, hf⟩ := FF.of ho; have Fd := Aside0.mk hf; clear ho hf))
 go_upto_region 9 with (first | ((with_reducible refine gate_dst (N := 57) rfl ?_); (try (refine gate_guard (by rfl) ?_; dsimp only)); refine Kd.R_lit Kd.string _ 9 ?hg (N := 57) ?hd (xs := ([(⟨#[98]⟩ : ByteArray)] : List ByteArray)) (inner := [.string (⟨#[98]⟩ : ByteArray)]) (ok := fun _ => True) (okp := fun _ => True) ?hr ?hp (fun _ hk => hk) trivial (Below.refl _ _) (Nat.le_refl _) (by simp) ?_; (case hd => rfl); (case hg => rfl); (case hr => first | (go_simp; done) | (go_simp; rfl)); (case hp => exact (Reps.one (show Kd.M Kd.string _ _ _ (⟨#[98]⟩ : ByteArray) [.string (⟨#[98]⟩ : ByteArray)] from rfl) (Reps.none _ _))); intro v w16 ho hb _ _; rw [← Hb.out] at ho; have S16 := Aside0.mk (snc (u := w15) (by repeat (first | exact Below.refl _ _ | apply pw_below_drewN | apply below_drew1)) hb); clear hb; obtain ⟨Ab, cb, rfl, hf⟩ := FF.of ho; have Fb := Aside0.mk hf; clear ho hf) | ((with_reducible refine gate_dst (N := 58) rfl ?_); (try (refine gate_guard (by rfl) ?_; dsimp only)); refine Kd.R_lit Kd.string _ 9 ?hg (N := 58) ?hd (xs := ([(⟨#[121]⟩ : ByteArray)] : List ByteArray)) (inner := [.string (⟨#[121]⟩ : ByteArray)]) (ok := fun _ => True) (okp := fun _ => True) ?hr ?hp (fun _ hk => hk) trivial (Below.refl _ _) (Nat.le_refl _) (by simp) ?_; (case hd => rfl); (case hg => rfl); (case hr => first | (go_simp; done) | (go_simp; rfl)); (case hp => exact (Reps.one (show Kd.M Kd.string _ _ _ (⟨#[121]⟩ : ByteArray) [.string (⟨#[121]⟩ : ByteArray)] from rfl) (Reps.none _ _))); intro v w17 ho hb _ _; rw [← Hy.out] at ho; have S17 := Aside0.mk (snc (u := w16) (by repeat (first | exact Below.refl _ _ | apply pw_below_drewN | apply below_drew1)) hb); clear hb; obtain ⟨Ay, cy, rfl, hf⟩ := FF.of ho; have Fy := Aside0.mk hf; clear ho hf))
 go_upto_region 10 with fail
 obtain ⟨w18, hw⟩ : ∃ W, W = (w17.alloc (.cells #[.int .u8 1, .slice Aone yone.length cone, .slice Aone yone.length cone, .slice Aone yone.length cone] 34)).alloc (.cells #[.int .u8 1, .slice Athr ythr.length cthr, .slice Athr ythr.length cthr, .slice Athr ythr.length cthr] 34) := ⟨_, rfl⟩
 rw [← hw]
 have S18 := Aside0.mk (show Below w17.heap.size w17 w18 by rw [hw]; exact ((Below.refl _ _).alloc (Nat.le_refl _) _).alloc (by simp) _)
 have D00 : w18.cell? ⟨w17.heap.size, 0, none⟩ = some (.int .u8 1) := by rw [hw]; go_simp
 have D01 : w18.cell? ⟨w17.heap.size, 1, none⟩ = some (.slice Aone yone.length cone) := by rw [hw]; go_simp
 have D02 : w18.cell? ⟨w17.heap.size, 2, none⟩ = some (.slice Aone yone.length cone) := by rw [hw]; go_simp
 have D03 : w18.cell? ⟨w17.heap.size, 3, none⟩ = some (.slice Aone yone.length cone) := by rw [hw]; go_simp
 have D10 : w18.cell? ⟨w17.heap.size + 1, 0, none⟩ = some (.int .u8 1) := by rw [hw]; go_simp
 have D11 : w18.cell? ⟨w17.heap.size + 1, 1, none⟩ = some (.slice Athr ythr.length cthr) := by rw [hw]; go_simp
 have D12 : w18.cell? ⟨w17.heap.size + 1, 2, none⟩ = some (.slice Athr ythr.length cthr) := by rw [hw]; go_simp
 have D13 : w18.cell? ⟨w17.heap.size + 1, 3, none⟩ = some (.slice Athr ythr.length cthr) := by rw [hw]; go_simp
 clear hw
 go_upto_region 11 with fail
 go_wp2_with (first | ((with_reducible refine gate_dst (N := 96) rfl ?_); (try (refine gate_guard (by rfl) ?_; dsimp only)); refine Kd.N_lit k34 _ 34 ?hg (N' := 96) ?hd (xs := ([⟨1, yone, yone, yone⟩, ⟨2, yb, yx, yb⟩, ⟨1, ythr, ythr, ythr⟩, ⟨3, [], [], yd⟩] : List S34)) (inner := [.int .u8 1, .slice Aone yone.length cone, .slice Aone yone.length cone, .slice Aone yone.length cone, .int .u8 2, .slice Ab yb.length cb, .slice Ax yx.length cx, .slice Ab yb.length cb, .int .u8 1, .slice Athr ythr.length cthr, .slice Athr ythr.length cthr, .slice Athr ythr.length cthr, .int .u8 3, .slice none 0 0, .slice none 0 0, .slice Ad yd.length cd]) (ok := fun _ => True) (okp := fun _ => True) ?hr ?hp (fun _ hk => hk) trivial (Below.refl _ _) (Nat.le_refl _) (by simp) ?_; (case hd => rfl); (case hg => rfl); (case hr => first | (go_simp; done) | (go_simp; rfl)); (case hp => exact (Reps.c4 (k34_mkF _ _ (⟨1, yone, yone, yone⟩ : S34) Fone.out.1 (Fone.out.up (snc (snc S13.out (snc S14.out (snc S15.out (snc S16.out (snc S17.out S18.out))))) (by repeat (first | exact Below.refl _ _ | apply pw_below_drewN | apply below_drew1)))).2 Fone.out.1 (Fone.out.up (snc (snc S13.out (snc S14.out (snc S15.out (snc S16.out (snc S17.out S18.out))))) (by repeat (first | exact Below.refl _ _ | apply pw_below_drewN | apply below_drew1)))).2 Fone.out.1 (Fone.out.up (snc (snc S13.out (snc S14.out (snc S15.out (snc S16.out (snc S17.out S18.out))))) (by repeat (first | exact Below.refl _ _ | apply pw_below_drewN | apply below_drew1)))).2) (Reps.c4 (k34_mkF _ _ (⟨2, yb, yx, yb⟩ : S34) Fb.out.1 (Fb.out.up (snc (snc S17.out S18.out) (by repeat (first | exact Below.refl _ _ | apply pw_below_drewN | apply below_drew1)))).2 Fx.out.1 (Fx.out.up (snc (snc S15.out (snc S16.out (snc S17.out S18.out))) (by repeat (first | exact Below.refl _ _ | apply pw_below_drewN | apply below_drew1)))).2 Fb.out.1 (Fb.out.up (snc (snc S17.out S18.out) (by repeat (first | exact Below.refl _ _ | apply pw_below_drewN | apply below_drew1)))).2) (Reps.c4 (k34_mkF _ _ (⟨1, ythr, ythr, ythr⟩ : S34) Fthr.out.1 (Fthr.out.up (snc (snc S14.out (snc S15.out (snc S16.out (snc S17.out S18.out)))) (by repeat (first | exact Below.refl _ _ | apply pw_below_drewN | apply below_drew1)))).2 Fthr.out.1 (Fthr.out.up (snc (snc S14.out (snc S15.out (snc S16.out (snc S17.out S18.out)))) (by repeat (first | exact Below.refl _ _ | apply pw_below_drewN | apply below_drew1)))).2 Fthr.out.1 (Fthr.out.up (snc (snc S14.out (snc S15.out (snc S16.out (snc S17.out S18.out)))) (by repeat (first | exact Below.refl _ _ | apply pw_below_drewN | apply below_drew1)))).2) (Reps.c4 (k34_mkF _ _ (⟨3, [], [], yd⟩ : S34) (Nat.le_refl _) (FF.nil _).2 (Nat.le_refl _) (FF.nil _).2 Fd.out.1 (Fd.out.up (snc (snc S16.out (snc S17.out S18.out)) (by repeat (first | exact Below.refl _ _ | apply pw_below_drewN | apply below_drew1)))).2) (Reps.none _ _)))))); intro v w19 ho hb _ _; rw [← Hv1.out] at ho; have S19 := Aside0.mk (snc (u := w18) (by repeat (first | exact Below.refl _ _ | apply pw_below_drewN | apply below_drew1)) hb); obtain ⟨Av1, cv1, rfl⟩ := Kd.N_slice ho; have Cv1 := Aside0.mk (Kd.N_reads' ho).2; clear ho hb) | (go_at_call 11; (with_reducible refine (sidingref18_Same.calls 60 _ _ yp _ _ yv1 true _ (Kd.C_below Cp.out.2 (snc (snc S5.out (snc S6.out (snc S7.out (snc S8.out (snc S9.out (snc S10.out (snc S11.out (snc S12.out (snc S13.out (snc S14.out (snc S15.out (snc S16.out (snc S17.out (snc S18.out S19.out)))))))))))))) (by repeat (first | exact Below.refl _ _ | apply pw_below_drewN | apply below_drew1)))) Cp.out.1 (Kd.C_below Cv1.out.2 (by repeat (first | exact Below.refl _ _ | apply pw_below_drewN | apply below_drew1))) Cv1.out.1 Qs1.out ⟨rfl⟩).mono ?_); rintro e_ w20 ⟨rfl, hb⟩; have S20 := Aside0.mk (snc (u := w19) (by repeat (first | exact Below.refl _ _ | apply pw_below_drewN | apply below_drew1)) hb); clear hb) | ((with_reducible refine gate_dst (N := 101) rfl ?_); (try (refine gate_guard (by rfl) ?_; dsimp only)); refine Kd.R_lit Kd.string _ 9 ?hg (N := 101) ?hd (xs := ([(⟨#[97]⟩ : ByteArray), (⟨#[120]⟩ : ByteArray), (⟨#[99]⟩ : ByteArray), (⟨#[100]⟩ : ByteArray)] : List ByteArray)) (inner := [.string (⟨#[97]⟩ : ByteArray), .string (⟨#[120]⟩ : ByteArray), .string (⟨#[99]⟩ : ByteArray), .string (⟨#[100]⟩ : ByteArray)]) (ok := fun _ => True) (okp := fun _ => True) ?hr ?hp (fun _ hk => hk) trivial (Below.refl _ _) (Nat.le_refl _) (by simp) ?_; (case hd => rfl); (case hg => rfl); (case hr => first | (go_simp; done) | (go_simp; rfl)); (case hp => exact (Reps.one (show Kd.M Kd.string _ _ _ (⟨#[97]⟩ : ByteArray) [.string (⟨#[97]⟩ : ByteArray)] from rfl) (Reps.one (show Kd.M Kd.string _ _ _ (⟨#[120]⟩ : ByteArray) [.string (⟨#[120]⟩ : ByteArray)] from rfl) (Reps.one (show Kd.M Kd.string _ _ _ (⟨#[99]⟩ : ByteArray) [.string (⟨#[99]⟩ : ByteArray)] from rfl) (Reps.one (show Kd.M Kd.string _ _ _ (⟨#[100]⟩ : ByteArray) [.string (⟨#[100]⟩ : ByteArray)] from rfl) (Reps.none _ _)))))); intro v w21 ho hb _ _; rw [← Hl5.out] at ho; have S21 := Aside0.mk (snc (u := w20) (by repeat (first | exact Below.refl _ _ | apply pw_below_drewN | apply below_drew1)) hb); clear hb; obtain ⟨Al5, cl5, rfl, hf⟩ := FF.of ho; have Fl5 := Aside0.mk hf; clear ho hf; have D00a := snc_cell (snc S19.out (snc S20.out S21.out)) D00; have D01a := snc_cell (snc S19.out (snc S20.out S21.out)) D01; have D02a := snc_cell (snc S19.out (snc S20.out S21.out)) D02; have D03a := snc_cell (snc S19.out (snc S20.out S21.out)) D03; have D10a := snc_cell (snc S19.out (snc S20.out S21.out)) D10; have D11a := snc_cell (snc S19.out (snc S20.out S21.out)) D11; have D12a := snc_cell (snc S19.out (snc S20.out S21.out)) D12; have D13a := snc_cell (snc S19.out (snc S20.out S21.out)) D13) | (go_at_call 12; (with_reducible refine (sidingref13_Same.calls 60 _ _ yl _ _ yl5 true _ (Fl.out.up (snc (snc S6.out (snc S7.out (snc S8.out (snc S9.out (snc S10.out (snc S11.out (snc S12.out (snc S13.out (snc S14.out (snc S15.out (snc S16.out (snc S17.out (snc S18.out (snc S19.out (snc S20.out S21.out))))))))))))))) (by repeat (first | exact Below.refl _ _ | apply pw_below_drewN | apply below_drew1)))).C Fl.out.1 (Fl5.out.up (by repeat (first | exact Below.refl _ _ | apply pw_below_drewN | apply below_drew1))).C Fl5.out.1 Qs2.out).mono ?_); rintro e_ w_ ⟨rfl, ⟨nd, rfl⟩⟩) | ((with_reducible refine gate_dst (N := 112) rfl ?_); (try (refine gate_guard (by rfl) ?_; dsimp only)); refine Kd.N_lit k34 _ 34 ?hg (N' := 112) ?hd (xs := ([⟨1, yone, yone, yone⟩, ⟨5, yb, yx, yy⟩, ⟨1, ythr, ythr, ythr⟩] : List S34)) (inner := [.int .u8 1, .slice Aone yone.length cone, .slice Aone yone.length cone, .slice Aone yone.length cone, .int .u8 5, .slice Ab yb.length cb, .slice Ax yx.length cx, .slice Ay yy.length cy, .int .u8 1, .slice Athr ythr.length cthr, .slice Athr ythr.length cthr, .slice Athr ythr.length cthr]) (ok := fun _ => True) (okp := fun _ => True) ?hr ?hp (fun _ hk => hk) trivial (Below.refl _ _) (Nat.le_refl _) (by simp) ?_; (case hd => rfl); (case hg => rfl); (case hr => first | (go_simp; done) | (go_simp; rfl)); (case hp => exact (Reps.c4 (k34_mkF _ _ (⟨1, yone, yone, yone⟩ : S34) Fone.out.1 (Fone.out.up (snc (snc S13.out (snc S14.out (snc S15.out (snc S16.out (snc S17.out (snc S18.out (snc S19.out (snc S20.out S21.out)))))))) (by repeat (first | exact Below.refl _ _ | apply pw_below_drewN | apply below_drew1)))).2 Fone.out.1 (Fone.out.up (snc (snc S13.out (snc S14.out (snc S15.out (snc S16.out (snc S17.out (snc S18.out (snc S19.out (snc S20.out S21.out)))))))) (by repeat (first | exact Below.refl _ _ | apply pw_below_drewN | apply below_drew1)))).2 Fone.out.1 (Fone.out.up (snc (snc S13.out (snc S14.out (snc S15.out (snc S16.out (snc S17.out (snc S18.out (snc S19.out (snc S20.out S21.out)))))))) (by repeat (first | exact Below.refl _ _ | apply pw_below_drewN | apply below_drew1)))).2) (Reps.c4 (k34_mkF _ _ (⟨5, yb, yx, yy⟩ : S34) Fb.out.1 (Fb.out.up (snc (snc S17.out (snc S18.out (snc S19.out (snc S20.out S21.out)))) (by repeat (first | exact Below.refl _ _ | apply pw_below_drewN | apply below_drew1)))).2 Fx.out.1 (Fx.out.up (snc (snc S15.out (snc S16.out (snc S17.out (snc S18.out (snc S19.out (snc S20.out S21.out)))))) (by repeat (first | exact Below.refl _ _ | apply pw_below_drewN | apply below_drew1)))).2 Fy.out.1 (Fy.out.up (snc (snc S18.out (snc S19.out (snc S20.out S21.out))) (by repeat (first | exact Below.refl _ _ | apply pw_below_drewN | apply below_drew1)))).2) (Reps.c4 (k34_mkF _ _ (⟨1, ythr, ythr, ythr⟩ : S34) Fthr.out.1 (Fthr.out.up (snc (snc S14.out (snc S15.out (snc S16.out (snc S17.out (snc S18.out (snc S19.out (snc S20.out S21.out))))))) (by repeat (first | exact Below.refl _ _ | apply pw_below_drewN | apply below_drew1)))).2 Fthr.out.1 (Fthr.out.up (snc (snc S14.out (snc S15.out (snc S16.out (snc S17.out (snc S18.out (snc S19.out (snc S20.out S21.out))))))) (by repeat (first | exact Below.refl _ _ | apply pw_below_drewN | apply below_drew1)))).2 Fthr.out.1 (Fthr.out.up (snc (snc S14.out (snc S15.out (snc S16.out (snc S17.out (snc S18.out (snc S19.out (snc S20.out S21.out))))))) (by repeat (first | exact Below.refl _ _ | apply pw_below_drewN | apply below_drew1)))).2) (Reps.none _ _))))); intro v w22 ho hb _ _; rw [← Hv2.out] at ho; have S22 := Aside0.mk (snc (u := w21) (by repeat (first | exact Below.refl _ _ | apply pw_below_drewN | apply below_drew1)) hb); obtain ⟨Av2, cv2, rfl⟩ := Kd.N_slice ho; have Cv2 := Aside0.mk (Kd.N_reads' ho).2; clear ho hb) | (go_at_call 11; (with_reducible refine (sidingref18_Same.calls 60 _ _ yq _ _ yv2 true _ (Kd.C_below Cq.out.2 (snc (snc S9.out (snc S10.out (snc S11.out (snc S12.out (snc S13.out (snc S14.out (snc S15.out (snc S16.out (snc S17.out (snc S18.out (snc S19.out (snc S20.out (snc S21.out S22.out))))))))))))) (by repeat (first | exact Below.refl _ _ | apply pw_below_drewN | apply below_drew1)))) Cq.out.1 (Kd.C_below Cv2.out.2 (by repeat (first | exact Below.refl _ _ | apply pw_below_drewN | apply below_drew1))) Cv2.out.1 Qs3.out ⟨rfl⟩).mono ?_); rintro e_ w23 ⟨rfl, hb⟩; have S23 := Aside0.mk (snc (u := w22) (by repeat (first | exact Below.refl _ _ | apply pw_below_drewN | apply below_drew1)) hb); clear hb; have D00b := snc_cell (snc S19.out (snc S20.out (snc S21.out (snc S22.out S23.out)))) D00; have D01b := snc_cell (snc S19.out (snc S20.out (snc S21.out (snc S22.out S23.out)))) D01; have D02b := snc_cell (snc S19.out (snc S20.out (snc S21.out (snc S22.out S23.out)))) D02; have D03b := snc_cell (snc S19.out (snc S20.out (snc S21.out (snc S22.out S23.out)))) D03; have D10b := snc_cell (snc S19.out (snc S20.out (snc S21.out (snc S22.out S23.out)))) D10; have D11b := snc_cell (snc S19.out (snc S20.out (snc S21.out (snc S22.out S23.out)))) D11; have D12b := snc_cell (snc S19.out (snc S20.out (snc S21.out (snc S22.out S23.out)))) D12; have D13b := snc_cell (snc S19.out (snc S20.out (snc S21.out (snc S22.out S23.out)))) D13) | ((with_reducible refine gate_dst (N := 123) rfl ?_); (try (refine gate_guard (by rfl) ?_; dsimp only)); refine Kd.N_lit k34 _ 34 ?hg (N' := 123) ?hd (xs := ([⟨1, yone, yone, yone⟩, ⟨4, yb, yx, yx⟩, ⟨1, ythr, ythr, ythr⟩] : List S34)) (inner := [.int .u8 1, .slice Aone yone.length cone, .slice Aone yone.length cone, .slice Aone yone.length cone, .int .u8 4, .slice Ab yb.length cb, .slice Ax yx.length cx, .slice Ax yx.length cx, .int .u8 1, .slice Athr ythr.length cthr, .slice Athr ythr.length cthr, .slice Athr ythr.length cthr]) (ok := fun _ => True) (okp := fun _ => True) ?hr ?hp (fun _ hk => hk) trivial (Below.refl _ _) (Nat.le_refl _) (by simp) ?_; (case hd => rfl); (case hg => rfl); (case hr => first | (go_simp; done) | (go_simp; rfl)); (case hp => exact (Reps.c4 (k34_mkF _ _ (⟨1, yone, yone, yone⟩ : S34) Fone.out.1 (Fone.out.up (snc (snc S13.out (snc S14.out (snc S15.out (snc S16.out (snc S17.out (snc S18.out (snc S19.out (snc S20.out (snc S21.out (snc S22.out S23.out)))))))))) (by repeat (first | exact Below.refl _ _ | apply pw_below_drewN | apply below_drew1)))).2 Fone.out.1 (Fone.out.up (snc (snc S13.out (snc S14.out (snc S15.out (snc S16.out (snc S17.out (snc S18.out (snc S19.out (snc S20.out (snc S21.out (snc S22.out S23.out)))))))))) (by repeat (first | exact Below.refl _ _ | apply pw_below_drewN | apply below_drew1)))).2 Fone.out.1 (Fone.out.up (snc (snc S13.out (snc S14.out (snc S15.out (snc S16.out (snc S17.out (snc S18.out (snc S19.out (snc S20.out (snc S21.out (snc S22.out S23.out)))))))))) (by repeat (first | exact Below.refl _ _ | apply pw_below_drewN | apply below_drew1)))).2) (Reps.c4 (k34_mkF _ _ (⟨4, yb, yx, yx⟩ : S34) Fb.out.1 (Fb.out.up (snc (snc S17.out (snc S18.out (snc S19.out (snc S20.out (snc S21.out (snc S22.out S23.out)))))) (by repeat (first | exact Below.refl _ _ | apply pw_below_drewN | apply below_drew1)))).2 Fx.out.1 (Fx.out.up (snc (snc S15.out (snc S16.out (snc S17.out (snc S18.out (snc S19.out (snc S20.out (snc S21.out (snc S22.out S23.out)))))))) (by repeat (first | exact Below.refl _ _ | apply pw_below_drewN | apply below_drew1)))).2 Fx.out.1 (Fx.out.up (snc (snc S15.out (snc S16.out (snc S17.out (snc S18.out (snc S19.out (snc S20.out (snc S21.out (snc S22.out S23.out)))))))) (by repeat (first | exact Below.refl _ _ | apply pw_below_drewN | apply below_drew1)))).2) (Reps.c4 (k34_mkF _ _ (⟨1, ythr, ythr, ythr⟩ : S34) Fthr.out.1 (Fthr.out.up (snc (snc S14.out (snc S15.out (snc S16.out (snc S17.out (snc S18.out (snc S19.out (snc S20.out (snc S21.out (snc S22.out S23.out))))))))) (by repeat (first | exact Below.refl _ _ | apply pw_below_drewN | apply below_drew1)))).2 Fthr.out.1 (Fthr.out.up (snc (snc S14.out (snc S15.out (snc S16.out (snc S17.out (snc S18.out (snc S19.out (snc S20.out (snc S21.out (snc S22.out S23.out))))))))) (by repeat (first | exact Below.refl _ _ | apply pw_below_drewN | apply below_drew1)))).2 Fthr.out.1 (Fthr.out.up (snc (snc S14.out (snc S15.out (snc S16.out (snc S17.out (snc S18.out (snc S19.out (snc S20.out (snc S21.out (snc S22.out S23.out))))))))) (by repeat (first | exact Below.refl _ _ | apply pw_below_drewN | apply below_drew1)))).2) (Reps.none _ _))))); intro v w24 ho hb _ _; rw [← Hv3.out] at ho; have S24 := Aside0.mk (snc (u := w23) (by repeat (first | exact Below.refl _ _ | apply pw_below_drewN | apply below_drew1)) hb); obtain ⟨Av3, cv3, rfl⟩ := Kd.N_slice ho; have Cv3 := Aside0.mk (Kd.N_reads' ho).2; clear ho hb) | (go_at_call 11; (with_reducible refine (sidingref18_Same.calls 60 _ _ yr _ _ yv3 true _ (Kd.C_below Cr.out.2 (snc (snc S12.out (snc S13.out (snc S14.out (snc S15.out (snc S16.out (snc S17.out (snc S18.out (snc S19.out (snc S20.out (snc S21.out (snc S22.out (snc S23.out S24.out)))))))))))) (by repeat (first | exact Below.refl _ _ | apply pw_below_drewN | apply below_drew1)))) Cr.out.1 (Kd.C_below Cv3.out.2 (by repeat (first | exact Below.refl _ _ | apply pw_below_drewN | apply below_drew1))) Cv3.out.1 Qs4.out ⟨rfl⟩).mono ?_); rintro e_ w25 ⟨rfl, hb⟩; have S25 := Aside0.mk (snc (u := w24) (by repeat (first | exact Below.refl _ _ | apply pw_below_drewN | apply below_drew1)) hb); clear hb))
 go_ret
 exact ⟨rfl, (snc (snc S1.out (snc S2.out (snc S3.out (snc S4.out (snc S5.out (snc S6.out (snc S7.out (snc S8.out (snc S9.out (snc S10.out (snc S11.out (snc S12.out (snc S13.out (snc S14.out (snc S15.out (snc S16.out (snc S17.out (snc S18.out (snc S19.out (snc S20.out (snc S21.out (snc S22.out (snc S23.out (snc S24.out S25.out)))))))))))))))))))))))) (by repeat (first | exact Below.refl _ _ | apply pw_below_drewN | apply below_drew1)))⟩
theorem sidinglaw18_alive.calls (r : Bool) (w : World) (h : sidinglaw18_alive.f = some r) : Calls Try.prog 13 #[] w fun e w' => e = .returned (.bool r) ∧ Below w.heap.size w w' := by
 obtain rfl := Option.some.inj h
 exact alive18_any w
end Go.Proofs.Ytahpbpacjciddaa.Pr
end
section
namespace Go.Proofs.Ytahpbpacjciddaa.Pr
open Go.RowKit Go.Proofs.YtahpbpacjciddaaW.PrintWords Go.Proofs.YtahpbpacjciddaaW.PrintLast Go.Proofs.YtahpbpacjciddaaW.PrintMore
attribute [local go_sem] max2_int min2_int max_two min_two max_three min_three max_four min_four   
def sidingref13_Text.l0 : Nat → List ByteArray → List Int → Int → Option (List Int)
  | 0, _, _, _ => none
  | k + 1, x0, x3, x4 => if x4 < (x0.length : Int) then (if x4 > 0 then (if x3.length < 140737488355328 then ((some (x3 ++ [10] : List Int)).bind fun y149 => (if 0 ≤ x4 then (if y149.length + (rdOf ByteArray.empty x0 x4).size < 140737488355328 then (sidingref13_Text.l0 k x0 (y149 ++ bytesOf (rdOf ByteArray.empty x0 x4)) (wrap64 (x4 + 1))) else (none)) else (none))) else (none)) else (if 0 ≤ x4 then (if x3.length + (rdOf ByteArray.empty x0 x4).size < 140737488355328 then (sidingref13_Text.l0 k x0 (x3 ++ bytesOf (rdOf ByteArray.empty x0 x4)) (wrap64 (x4 + 1))) else (none)) else (none))) else (some x3)
def sidingref13_Text.f (k : Nat) (l0 : List ByteArray) : Option (List Int) := sidingref13_Text.l0 k l0 ([] : List Int) 0
set_option maxHeartbeats 8000000 in
set_option maxRecDepth 100000 in
theorem sidingref13_Text.calls (k : Nat) (A0 : Option Addr) (c0 : Nat) (l0 : List ByteArray) (r : List Int) (w : World) (hr0 : Kd.C Kd.string w A0 l0.length l0) (hc0 : l0.length ≤ c0) (h : sidingref13_Text.f k l0 = some r) :
  Calls Try.prog 34 #[.slice A0 l0.length c0] w fun e w' => ∃ v0_ : Value, e = .returned (v0_) ∧ Kd.R (Kd.int .u8) 5 w' w.heap.size (fun _ => True) v0_ r ∧ Below w.heap.size w w' := by
 have HR0 := Aside0.mk hr0
 have HC0 := Aside0.mk hc0
 clear hr0 hc0
 have HB := Aside0.mk (Below.refl w.heap.size w)
 have H : (sidingref13_Text.l0 k l0 ([] : List Int) 0) = some r := h
 clear h
 have H' := Aside0.mk H
 clear H
 go_enter Try.func34, Try.ntmps34
 go_wp2
 go_loopg [3, 4] k (fun kq v3 v4 w' => ∃ (x3_1 : List Int) (x4_1 : Int), v4 = .int .i64 x4_1 ∧ Aside0 (sidingref13_Text.l0 kq l0 x3_1 x4_1 = some r) ∧ Aside0 (kq ≤ k) ∧ Aside0 (Kd.R (Kd.int .u8) 5 w' w.heap.size (fun _ => True) v3 x3_1) ∧ Aside0 (Below w.heap.size w w'))
 case atStart => exact ⟨(([] : List Int)), (0), (by first | rfl | (simp; done) | (simp [*]; done)), H', ⟨Nat.le_refl _⟩, ⟨by first | exact Kd.R_nil _ _ _ _ _ | exact Kd.N_nil _ _ _ _ _ | exact Kd.V_nil _ _ _ _ _ | exact Kd.Q_nil _ _ _ _ _ | exact Kd.S_nil _ _ _ _ _⟩, ⟨by repeat (first | (with_reducible first | exact HB.out | apply below_alloc | apply pw_below_drewN | apply below_drew1) | exact HB.out)⟩⟩
 case round =>
  clear H'
  obtain ⟨x3_1, x4_1, rfl, HA, HK1, HO_3, HB⟩ := hrel
  cases gk with
  | zero => exact absurd HA.out (by simp [sidingref13_Text.l0])
  | succ k1 =>
   have H := HA.out
   clear HA
   simp only [sidingref13_Text.l0] at H
   by_cases c2 : x4_1 < (l0.length : Int)
   ·rw [if_pos c2] at H
    have c2b0 : decide (x4_1 < (l0.length : Int)) = true := decide_eq_true c2
    clear c2
    by_cases c3 : x4_1 > 0
    ·rw [if_pos c3] at H
     have c3b0 : decide (0 < x4_1) = true := decide_eq_true c3
     clear c3
     by_cases c4 : x3_1.length < 140737488355328
     ·rw [if_pos c4] at H
      have LMc4 := Aside0.mk c4
      clear c4
      obtain ⟨y149, hy149⟩ : ∃ y_ : List Int, y_ = (x3_1 ++ [10]) := ⟨_, rfl⟩
      replace H : (if 0 ≤ x4_1 then (if y149.length + (rdOf ByteArray.empty l0 x4_1).size < 140737488355328 then (sidingref13_Text.l0 k1 l0 (y149 ++ bytesOf (rdOf ByteArray.empty l0 x4_1)) (wrap64 (x4_1 + 1))) else (none)) else (none)) = some r := by first | (rw [hy149]; with_reducible exact H) | (have H2_ := (Option.bind_some _ _).symm.trans H; rw [hy149]; with_reducible exact H2_) | (have H2_ := (Option.bind_some _ _).symm.trans H; with_reducible exact H2_) | with_reducible exact H | (rw [hy149]; exact H) | exact H
      have Ny149 := Aside0.mk hy149
      clear hy149
      by_cases c5 : 0 ≤ x4_1
      ·rw [if_pos c5] at H
       have c5b0 : decide (0 ≤ x4_1) = true := decide_eq_true c5
       clear c5
       by_cases c6 : y149.length + (rdOf ByteArray.empty l0 x4_1).size < 140737488355328
       ·rw [if_pos c6] at H
        have LMc6 := Aside0.mk c6
        clear c6
        obtain ⟨y153, hy153⟩ : ∃ y_ : List Int, y_ = (y149 ++ bytesOf (rdOf ByteArray.empty l0 x4_1)) := ⟨_, rfl⟩
        replace H : (sidingref13_Text.l0 k1 l0 y153 (wrap64 (x4_1 + 1))) = some r := by first | (rw [hy153]; with_reducible exact H) | (have H2_ := (Option.bind_some _ _).symm.trans H; rw [hy153]; with_reducible exact H2_) | (have H2_ := (Option.bind_some _ _).symm.trans H; with_reducible exact H2_) | with_reducible exact H | (rw [hy153]; exact H) | exact H
        have Ny153 := Aside0.mk hy153
        clear hy153
        have H' := Aside0.mk H
        clear H
        go_wp2_with (first | ((with_reducible refine gate_builtin (b := .append) (xs := #[.tmp 13, .tmp 14]) rfl ?_); at_builtin; refine Kd.R_append (Kd.int .u8) (w0 := w) w.heap.size rfl (.tmp 13) (.tmp 14) 48 5 (.int .u8 0) 1 rfl Try.underlying48 info5 rfl (by decide) (by omega) u3 x3_1 10 [.int .u8 10] (fun _ => True) (fun _ => False) rfl rfl ?aP (fun _ hk => hk.elim) ?aF ?aO ?aB ?aS ?aL ?_; (case aP => exact rfl); (case aB => exact (by repeat (first | (with_reducible first | exact HB.out | apply below_alloc | apply pw_below_drewN | apply below_drew1) | exact HB.out))); (case aF => exact (fun _ _ => trivial)); (case aO => exact (by (with_reducible repeat (first | apply Kd.R_alloc | apply Kd.R_drewN | apply Kd.R_drew)); exact HO_3.out)); (case aS => exact (below_size (by repeat (first | (with_reducible first | exact HB.out | apply below_alloc | apply pw_below_drewN | apply below_drew1) | exact HB.out)))); (case aL => have := LMc4.out; omega); intro v150 w7 ho hb hg hat; rw [← Ny149.out] at ho; have n0_ := Aside0.mk (hb); have n1_ := Aside0.mk (ho); clear HB; clear HO_3; have HB := n0_; have HO151 := n1_; clear n0_ n1_; clear ho hb hg hat; have p152 : 0 ≤ (x4_1 : Int) := of_decide_eq_true (by first | (with_reducible assumption) | assumption); have q152 : x4_1 < (l0.length : Int) := of_decide_eq_true (by first | (with_reducible assumption) | assumption); obtain ⟨ad152, e152, hx152_0⟩ := Kd.at_string HR0.out x4_1 p152 q152; cases e152; replace hx152_0 := (HB.out.cell (World.block_lt_of_cell? w _ hx152_0)).trans hx152_0; replace p152 := eq_true p152; replace q152 := eq_true q152) | (at_builtin; refine print_append_str (w0 := w) w.heap.size rfl (.tmp 16) _ 48 9 5 rfl Try.underlying48 Try.underlying9 info5 v150 y149 (rdOf ByteArray.empty l0 x4_1) rfl rfl ?aO ?aB ?aS ?aL ?_; (case aB => exact (by repeat (first | (with_reducible first | exact HB.out | apply below_alloc | apply pw_below_drewN | apply below_drew1) | exact HB.out))); (case aO => exact (Kd.own_of_R (by (with_reducible repeat (first | apply Kd.R_alloc | apply Kd.R_drewN | apply Kd.R_drew)); exact HO151.out))); (case aS => exact (below_size (by repeat (first | (with_reducible first | exact HB.out | apply below_alloc | apply pw_below_drewN | apply below_drew1) | exact HB.out)))); (case aL => have := LMc6.out; omega); intro v154 w8 ho0 hb hg; have ho := Kd.R_of_own (h1 := fun _ => rfl) (ok := fun _ => True) ho0 (fun _ _ => trivial); clear ho0; have hat := True.intro; rw [← Ny153.out] at ho; change Kd.R (Kd.int .u8) 5 w8 w.heap.size (fun _ => True) v154 y153 at ho; have n0_ := Aside0.mk (hb); have n1_ := Aside0.mk (ho); clear HB; clear HO151; have HB := n0_; have HO155 := n1_; clear n0_ n1_; clear ho hb hg hat))
        go_roundg k1
        case measure => have := HK1.out; omega
        case rel => exact ⟨(y153), (wrap64 (x4_1 + 1)), (by first | rfl | (simp; done) | (simp [*]; done)), H', ⟨by have := HK1.out; omega⟩, ⟨by (with_reducible repeat (first | apply Kd.R_alloc | apply Kd.R_drewN | apply Kd.R_drew)); exact HO155.out⟩, ⟨by repeat (first | (with_reducible first | exact HB.out | apply below_alloc | apply pw_below_drewN | apply below_drew1) | exact HB.out)⟩⟩
       ·rw [if_neg c6] at H
        exact absurd H (by simp)
      ·rw [if_neg c5] at H
       exact absurd H (by simp)
     ·rw [if_neg c4] at H
      exact absurd H (by simp)
    ·rw [if_neg c3] at H
     have c3b0 : decide (0 < x4_1) = false := decide_eq_false c3
     clear c3
     by_cases c9 : 0 ≤ x4_1
     ·rw [if_pos c9] at H
      have c9b0 : decide (0 ≤ x4_1) = true := decide_eq_true c9
      clear c9
      by_cases c10 : x3_1.length + (rdOf ByteArray.empty l0 x4_1).size < 140737488355328
      ·rw [if_pos c10] at H
       have LMc10 := Aside0.mk c10
       clear c10
       obtain ⟨y157, hy157⟩ : ∃ y_ : List Int, y_ = (x3_1 ++ bytesOf (rdOf ByteArray.empty l0 x4_1)) := ⟨_, rfl⟩
       replace H : (sidingref13_Text.l0 k1 l0 y157 (wrap64 (x4_1 + 1))) = some r := by first | (rw [hy157]; with_reducible exact H) | (have H2_ := (Option.bind_some _ _).symm.trans H; rw [hy157]; with_reducible exact H2_) | (have H2_ := (Option.bind_some _ _).symm.trans H; with_reducible exact H2_) | with_reducible exact H | (rw [hy157]; exact H) | exact H
       have Ny157 := Aside0.mk hy157
       clear hy157
       have H' := Aside0.mk H
       clear H
       have p156 : 0 ≤ (x4_1 : Int) := of_decide_eq_true (by first | (with_reducible assumption) | assumption)
       have q156 : x4_1 < (l0.length : Int) := of_decide_eq_true (by first | (with_reducible assumption) | assumption)
       obtain ⟨ad156, e156, hx156_0⟩ := Kd.at_string HR0.out x4_1 p156 q156
       cases e156
       replace hx156_0 := (HB.out.cell (World.block_lt_of_cell? w _ hx156_0)).trans hx156_0
       replace p156 := eq_true p156
       replace q156 := eq_true q156
       go_wp2_with (first | (at_builtin; refine print_append_str (w0 := w) w.heap.size rfl (.tmp 16) _ 48 9 5 rfl Try.underlying48 Try.underlying9 info5 u3 x3_1 (rdOf ByteArray.empty l0 x4_1) rfl rfl ?aO ?aB ?aS ?aL ?_; (case aB => exact (by repeat (first | (with_reducible first | exact HB.out | apply below_alloc | apply pw_below_drewN | apply below_drew1) | exact HB.out))); (case aO => exact (Kd.own_of_R (by (with_reducible repeat (first | apply Kd.R_alloc | apply Kd.R_drewN | apply Kd.R_drew)); exact HO_3.out))); (case aS => exact (below_size (by repeat (first | (with_reducible first | exact HB.out | apply below_alloc | apply pw_below_drewN | apply below_drew1) | exact HB.out)))); (case aL => have := LMc10.out; omega); intro v158 w11 ho0 hb hg; have ho := Kd.R_of_own (h1 := fun _ => rfl) (ok := fun _ => True) ho0 (fun _ _ => trivial); clear ho0; have hat := True.intro; rw [← Ny157.out] at ho; change Kd.R (Kd.int .u8) 5 w11 w.heap.size (fun _ => True) v158 y157 at ho; have n0_ := Aside0.mk (hb); have n1_ := Aside0.mk (ho); clear HB; clear HO_3; have HB := n0_; have HO159 := n1_; clear n0_ n1_; clear ho hb hg hat))
       go_roundg k1
       case measure => have := HK1.out; omega
       case rel => exact ⟨(y157), (wrap64 (x4_1 + 1)), (by first | rfl | (simp; done) | (simp [*]; done)), H', ⟨by have := HK1.out; omega⟩, ⟨by (with_reducible repeat (first | apply Kd.R_alloc | apply Kd.R_drewN | apply Kd.R_drew)); exact HO159.out⟩, ⟨by repeat (first | (with_reducible first | exact HB.out | apply below_alloc | apply pw_below_drewN | apply below_drew1) | exact HB.out)⟩⟩
      ·rw [if_neg c10] at H
       exact absurd H (by simp)
     ·rw [if_neg c9] at H
      exact absurd H (by simp)
   ·rw [if_neg c2] at H
    have c2b0 : decide (x4_1 < (l0.length : Int)) = false := decide_eq_false c2
    clear c2
    obtain rfl := Option.some.inj H
    go_wp2
    go_ret
    exact ⟨_, by first | rfl | (simp [errW_none, errW_some] <;> rfl) | (simp [*, errW_none, errW_some] <;> rfl), by (with_reducible repeat (first | apply Kd.R_alloc | apply Kd.R_drewN | apply Kd.R_drew)); exact HO_3.out, by repeat (first | (with_reducible first | exact HB.out | apply below_alloc | apply pw_below_drewN | apply below_drew1) | exact HB.out)⟩
end Go.Proofs.Ytahpbpacjciddaa.Pr
end
section
namespace Go.Proofs.Ytahpbpacjciddaa.Pr
open Go.RowKit Go.Proofs.YtahpbpacjciddaaW.PrintWords Go.Proofs.YtahpbpacjciddaaW.PrintLast Go.Proofs.YtahpbpacjciddaaW.PrintMore
attribute [local go_sem] max2_int min2_int max_two min_two max_three min_three max_four min_four   
def sidingref13_Parts.l0 : Nat → List Int → List ByteArray → Int → Int → Option (List ByteArray)
  | 0, _, _, _, _ => none
  | k + 1, x0, x3, x4, x5 => if x5 < (x0.length : Int) then (if 0 ≤ x5 then (if (rd x0 x5) = 10 then (if 0 ≤ x4 then (if x4 ≤ x5 then (if x5 ≤ (x0.length : Int) then (if 0 ≤ (wrap64 ((x3.length : Int) - 1)) then (if (wrap64 ((x3.length : Int) - 1)) < (x3.length : Int) then ((some (x3.set ((wrap64 ((x3.length : Int) - 1)) : Int).toNat (strOfNums ((x0.take (x5 : Int).toNat).drop (x4 : Int).toNat)) : List ByteArray)).bind fun y329 => (if y329.length < 8796093022208 then (sidingref13_Parts.l0 k x0 (y329 ++ [(⟨#[]⟩ : ByteArray)]) (wrap64 (x5 + 1)) (wrap64 (x5 + 1))) else (none))) else (none)) else (none)) else (none)) else (none)) else (none)) else (sidingref13_Parts.l0 k x0 x3 x4 (wrap64 (x5 + 1)))) else (none)) else (if 0 ≤ x4 then (if x4 ≤ (x0.length : Int) then (if 0 ≤ (wrap64 ((x3.length : Int) - 1)) then (if (wrap64 ((x3.length : Int) - 1)) < (x3.length : Int) then (some (x3.set ((wrap64 ((x3.length : Int) - 1)) : Int).toNat (strOfNums (x0.drop (x4 : Int).toNat)))) else (none)) else (none)) else (none)) else (none))
def sidingref13_Parts.f (k : Nat) (l0 : List Int) : Option (List ByteArray) := sidingref13_Parts.l0 k l0 (([(⟨#[]⟩ : ByteArray)] : List ByteArray)) 0 0
set_option maxHeartbeats 8000000 in
set_option maxRecDepth 100000 in
theorem sidingref13_Parts.calls (k : Nat) (A0 : Option Addr) (c0 : Nat) (l0 : List Int) (r : List ByteArray) (w : World) (hr0 : Kd.C (Kd.int .u8) w A0 l0.length l0) (hc0 : l0.length ≤ c0) (h : sidingref13_Parts.f k l0 = some r) :
  Calls Try.prog 45 #[.slice A0 l0.length c0] w fun e w' => ∃ v0_ : Value, e = .returned (v0_) ∧ Kd.R Kd.string 9 w' w.heap.size (fun _ => True) v0_ r ∧ Below w.heap.size w w' := by
 have HR0 := Aside0.mk hr0
 have HC0 := Aside0.mk hc0
 clear hr0 hc0
 have HB := Aside0.mk (Below.refl w.heap.size w)
 have H : (sidingref13_Parts.l0 k l0 (([(⟨#[]⟩ : ByteArray)] : List ByteArray)) 0 0) = some r := h
 clear h
 obtain ⟨y324, hy324⟩ : ∃ y_ : List ByteArray, y_ = (([(⟨#[]⟩ : ByteArray)] : List ByteArray)) := ⟨_, rfl⟩
 replace H : (sidingref13_Parts.l0 k l0 y324 0 0) = some r := by first | (rw [hy324]; with_reducible exact H) | (have H2_ := (Option.bind_some _ _).symm.trans H; rw [hy324]; with_reducible exact H2_) | (have H2_ := (Option.bind_some _ _).symm.trans H; with_reducible exact H2_) | with_reducible exact H | (rw [hy324]; exact H) | exact H
 have Ny324 := Aside0.mk hy324
 clear hy324
 have H' := Aside0.mk H
 clear H
 go_enter Try.func45, Try.ntmps45
 go_wp2_with (first | ((with_reducible refine gate_dst (N := 6) rfl ?_); refine Kd.R_lit Kd.string _ 9 ?hg (N := 6) ?hd (xs := ([(⟨#[]⟩ : ByteArray)] : List ByteArray)) (inner := [.string (⟨#[]⟩ : ByteArray)]) (ok := fun _ => True) (okp := fun _ => True) ?hr ?hp (fun _ hk => hk) trivial (Below.refl _ _) (Nat.le_refl _) (by simp) ?_; (case hd => rfl); (case hg => rfl); (case hr => first | (go_simp; done) | (go_simp; rfl)); (case hp => exact (Reps.one (show Kd.M Kd.string _ _ _ (⟨#[]⟩ : ByteArray) [.string (⟨#[]⟩ : ByteArray)] from rfl) (Reps.none _ _))); intro v325 w2 ho3 hb hg_ hnew_; clear hg_ hnew_; (first | rw [← Ny324.out] at ho3 | (simp only [Int.reduceToNat] at ho3; rw [← Ny324.out] at ho3)); have n0_ := Aside0.mk (Kd.R_lower ho3 (below_size (by repeat (first | (with_reducible first | exact HB.out | apply below_alloc | apply pw_below_drewN | apply below_drew1) | exact HB.out)))); have n1_ := Aside0.mk (below_step (by repeat (first | (with_reducible first | exact HB.out | apply below_alloc | apply pw_below_drewN | apply below_drew1) | exact HB.out)) hb); clear HB; have HO326 := n0_; have HB := n1_; clear n0_ n1_; clear hb ho3))
 go_loopg [3, 4, 5] k (fun kq v3 v4 v5 w' => ∃ (x3_1 : List ByteArray) (x4_1 : Int) (x5_1 : Int), v4 = .int .i64 x4_1 ∧ v5 = .int .i64 x5_1 ∧ Aside0 (sidingref13_Parts.l0 kq l0 x3_1 x4_1 x5_1 = some r) ∧ Aside0 (kq ≤ k) ∧ Aside0 (Kd.R Kd.string 9 w' w.heap.size (fun _ => True) v3 x3_1) ∧ Aside0 (Below w.heap.size w w'))
 case atStart => exact ⟨(y324), (0), (0), (by first | rfl | (simp; done) | (simp [*]; done)), (by first | rfl | (simp; done) | (simp [*]; done)), H', ⟨Nat.le_refl _⟩, ⟨by (with_reducible repeat (first | apply Kd.R_alloc | apply Kd.R_drewN | apply Kd.R_drew)); exact HO326.out⟩, ⟨by repeat (first | (with_reducible first | exact HB.out | apply below_alloc | apply pw_below_drewN | apply below_drew1) | exact HB.out)⟩⟩
 case round =>
  clear H'
  try clear p2
  obtain ⟨x3_1, x4_1, x5_1, rfl, rfl, HA, HK1, HO_3, HB⟩ := hrel
  cases gk with
  | zero => exact absurd HA.out (by simp [sidingref13_Parts.l0])
  | succ k1 =>
   have H := HA.out
   clear HA
   simp only [sidingref13_Parts.l0] at H
   by_cases c4 : x5_1 < (l0.length : Int)
   ·rw [if_pos c4] at H
    have c4b0 : decide (x5_1 < (l0.length : Int)) = true := decide_eq_true c4
    clear c4
    by_cases c5 : 0 ≤ x5_1
    ·rw [if_pos c5] at H
     have c5b0 : decide (0 ≤ x5_1) = true := decide_eq_true c5
     clear c5
     by_cases c6 : (rd l0 x5_1) = 10
     ·rw [if_pos c6] at H
      have c6b0 : ((rd l0 x5_1) == 10) = true := beq_iff_eq.mpr c6
      have c6b1 : ((rd l0 x5_1) != 10) = false := bne_eq_false_iff_eq.mpr c6
      clear c6
      by_cases c7 : 0 ≤ x4_1
      ·rw [if_pos c7] at H
       have c7b0 := eq_true c7
       have c7b1 : decide (0 ≤ x4_1) = true := decide_eq_true c7
       clear c7
       by_cases c8 : x4_1 ≤ x5_1
       ·rw [if_pos c8] at H
        have c8b0 := eq_true c8
        have c8b1 : decide (x4_1 ≤ x5_1) = true := decide_eq_true c8
        clear c8
        by_cases c9 : x5_1 ≤ (l0.length : Int)
        ·rw [if_pos c9] at H
         have c9b0 := eq_true c9
         have c9b1 : decide (x5_1 ≤ (l0.length : Int)) = true := decide_eq_true c9
         (try have c9m := Aside0.mk (Nat.min_eq_left (Int.toNat_le.2 c9)))
         clear c9
         obtain ⟨ji10, hji10⟩ : ∃ j_ : Int, (wrap64 ((x3_1.length : Int) - 1)) = j_ := ⟨_, rfl⟩
         replace H : (if 0 ≤ (ji10) then (if (ji10) < (x3_1.length : Int) then ((some (x3_1.set ((ji10) : Int).toNat (strOfNums ((l0.take (x5_1 : Int).toNat).drop (x4_1 : Int).toNat)) : List ByteArray)).bind fun y329 => (if y329.length < 8796093022208 then (sidingref13_Parts.l0 k1 l0 (y329 ++ [(⟨#[]⟩ : ByteArray)]) (wrap64 (x5_1 + 1)) (wrap64 (x5_1 + 1))) else (none))) else (none)) else (none)) = some r := by first | (rw [hji10] at H; exact H) | (simp only [hji10] at H ⊢; exact H)
         have hji10w : (IntKind.i64.wrap ((x3_1.length : Int) - 1)) = ji10 := (i64_w _).trans hji10
         by_cases c11 : 0 ≤ (ji10)
         ·rw [if_pos c11] at H
          have c11b0 : decide (0 ≤ (ji10)) = true := decide_eq_true c11
          clear c11
          by_cases c12 : (ji10) < (x3_1.length : Int)
          ·rw [if_pos c12] at H
           have c12b0 : decide ((ji10) < (x3_1.length : Int)) = true := decide_eq_true c12
           clear c12
           obtain ⟨y329, hy329⟩ : ∃ y_ : List ByteArray, y_ = (x3_1.set ((ji10) : Int).toNat (strOfNums ((l0.take (x5_1 : Int).toNat).drop (x4_1 : Int).toNat))) := ⟨_, rfl⟩
           replace H : (if y329.length < 8796093022208 then (sidingref13_Parts.l0 k1 l0 (y329 ++ [(⟨#[]⟩ : ByteArray)]) (wrap64 (x5_1 + 1)) (wrap64 (x5_1 + 1))) else (none)) = some r := by first | (rw [hy329]; with_reducible exact H) | (have H2_ := (Option.bind_some _ _).symm.trans H; rw [hy329]; with_reducible exact H2_) | (have H2_ := (Option.bind_some _ _).symm.trans H; with_reducible exact H2_) | with_reducible exact H | (rw [hy329]; exact H) | exact H
           have Ny329 := Aside0.mk hy329
           clear hy329
           by_cases c14 : y329.length < 8796093022208
           ·rw [if_pos c14] at H
            have LMc14 := Aside0.mk c14
            clear c14
            obtain ⟨y330, hy330⟩ : ∃ y_ : List ByteArray, y_ = (y329 ++ [(⟨#[]⟩ : ByteArray)]) := ⟨_, rfl⟩
            replace H : (sidingref13_Parts.l0 k1 l0 y330 (wrap64 (x5_1 + 1)) (wrap64 (x5_1 + 1))) = some r := by first | (rw [hy330]; with_reducible exact H) | (have H2_ := (Option.bind_some _ _).symm.trans H; rw [hy330]; with_reducible exact H2_) | (have H2_ := (Option.bind_some _ _).symm.trans H; with_reducible exact H2_) | with_reducible exact H | (rw [hy330]; exact H) | exact H
            have Ny330 := Aside0.mk hy330
            clear hy330
            have H' := Aside0.mk H
            clear H
            have p327 : 0 ≤ (x5_1 : Int) := of_decide_eq_true (by first | (with_reducible assumption) | assumption)
            have q327 : x5_1 < (l0.length : Int) := of_decide_eq_true (by first | (with_reducible assumption) | assumption)
            obtain ⟨ad327, e327, hx327_0⟩ := Kd.at_int HR0.out x5_1 p327 q327
            cases e327
            replace hx327_0 := (HB.out.cell (World.block_lt_of_cell? w _ hx327_0)).trans hx327_0
            replace p327 := eq_true p327
            replace q327 := eq_true q327
            obtain ⟨Ao15, co15, eo15⟩ := Kd.R_slice HO_3.out
            subst eo15
            obtain ⟨i016, hi016, _, hsz16, _⟩ := info_parts info5
            obtain ⟨A16, hcut16, hA16, hC16⟩ := print_mid_of (P := Try.prog) (Value.int .u8) 0 48 5 .i64 .i64 Try.underlying48 hi016 hsz16 (some ad327) c0 l0 x4_1 x5_1 (of_decide_eq_true (by first | (with_reducible assumption) | assumption)) (by first | omega | exact of_decide_eq_true (by first | (with_reducible assumption) | assumption)) (of_decide_eq_true (by first | (with_reducible assumption) | assumption)) HC0.out
            have HR328 := Aside0.mk (Kd.C_of_reads (h1 := fun _ => rfl) (hA16 _ (Kd.reads_of_C HR0.out)))
            have HC328 := Aside0.mk hC16
            clear hA16 hC16 hi016 hsz16
            have hcv17 := Kd.C_string (P := Try.prog) (A := A16) (c := (c0 - x4_1.toNat)) Try.underlying48 Try.underlying5 Try.underlying9 (Kd.C_below HR328.out HB.out)
            (try (have hcv17b := hcv17; rw [show (List.drop (x4_1 : Int).toNat (List.take (x5_1 : Int).toNat l0)).length = (x5_1 : Int).toNat - (x4_1 : Int).toNat from by rw [List.length_drop, List.length_take, Nat.min_eq_left (by have h_ : (x5_1 : Int) ≤ (l0.length : Int) := of_decide_eq_true (by first | (with_reducible assumption) | assumption); omega)]] at hcv17b))
            have p13 : 0 ≤ ((ji10) : Int) := of_decide_eq_true (by first | (with_reducible assumption) | assumption)
            have q13 : ((ji10) : Int) < ((x3_1.length : Int) : Int) := of_decide_eq_true (by first | (with_reducible assumption) | assumption)
            obtain ⟨go13, co13, eo13, gb13, gl13, cl13, HG13⟩ := Kd.R_form HO_3.out (by omega)
            (first | cases eo13 | (injection eo13 with ea_ en_ ec_; (first | subst ea_ | (injection ea_ with ea_; subst ea_)); subst ec_; clear en_))
            have GB13 := Aside0.mk gb13
            have GG13 := Aside0.mk HG13
            clear gb13 gl13 HG13
            obtain ⟨hx13_0, hf13_0⟩ := Kd.R_celln (⟨#[]⟩ : ByteArray) HO_3.out ((ji10) : Int) p13 q13
            replace p13 := eq_true p13
            replace q13 := eq_true q13
            have HP18 := Kd.R_putg HO_3.out ((ji10) : Int) (strOfNums ((l0.take (x5_1 : Int).toNat).drop (x4_1 : Int).toNat))
            go_wp2_with (first | ((with_reducible refine gate_store (t := 9) (p := 27) rfl ?_); refine store_event (t := 9) (p := 27) (v := ?vo_w19) (w1 := (wr.setCell ⟨go13, ((ji10) : Int).toNat, none⟩ (.string (strOfNums ((l0.take (x5_1 : Int).toNat).drop (x4_1 : Int).toNat))))) ?hg ?ho ?hn ?hr ?_; (case ho => rfl); (case hg => rfl); (case hn => rfl); (case hr => first | (go_simp; done) | (go_simp; rfl)); intro w19 hw; have hg : wr.grownBy w19 (some go13) := (by rw [hw]; exact HP18.2); have hp_ : Kd.R Kd.string 9 w19 w.heap.size (fun _ => True) (.slice (some ⟨go13, 0, none⟩) x3_1.length co15) y329 := (by rw [hw, Ny329.out]; exact HP18.1); clear HP18; have n0_ := Aside0.mk (hp_); have n1_ := Aside0.mk ((by rw [hw]; exact below_set (HB.out) GB13.out : Below w.heap.size w w19)); clear HO_3; clear HB; have HO_3 := n0_; have HB := n1_; clear n0_ n1_; clear hg hw hp_) | ((with_reducible refine gate_builtin (b := .append) (xs := #[.tmp 28, .tmp 29]) rfl ?_); at_builtin; refine Kd.R_append Kd.string (w0 := w) w.heap.size rfl (.tmp 28) (.tmp 29) 22 9 (.string ⟨#[]⟩) 16 rfl Try.underlying22 info9 rfl (by decide) (by omega) (.slice (some ⟨go13, 0, none⟩) x3_1.length co15) y329 (⟨#[]⟩ : ByteArray) [.string (⟨#[]⟩ : ByteArray)] (fun _ => True) (fun _ => False) rfl rfl ?aP (fun _ hk => hk.elim) ?aF ?aO ?aB ?aS ?aL ?_; (case aP => exact rfl); (case aB => exact (by repeat (first | (with_reducible first | exact HB.out | apply below_alloc | apply pw_below_drewN | apply below_drew1) | exact HB.out))); (case aF => exact (fun _ _ => trivial)); (case aO => exact (by (with_reducible repeat (first | apply Kd.R_alloc | apply Kd.R_drewN | apply Kd.R_drew)); exact HO_3.out)); (case aS => exact (below_size (by repeat (first | (with_reducible first | exact HB.out | apply below_alloc | apply pw_below_drewN | apply below_drew1) | exact HB.out)))); (case aL => have := LMc14.out; omega); intro v331 w20 ho hb hg hat; rw [← Ny330.out] at ho; have n0_ := Aside0.mk (hb); have n1_ := Aside0.mk (ho); clear HB; clear HO_3; have HB := n0_; have HO332 := n1_; clear n0_ n1_; clear ho hb hg hat))
            go_roundg k1
            case measure => have := HK1.out; omega
            case rel => exact ⟨(y330), (wrap64 (x5_1 + 1)), (wrap64 (x5_1 + 1)), (by first | rfl | (simp; done) | (simp [*]; done)), (by first | rfl | (simp; done) | (simp [*]; done)), H', ⟨by have := HK1.out; omega⟩, ⟨by (with_reducible repeat (first | apply Kd.R_alloc | apply Kd.R_drewN | apply Kd.R_drew)); exact HO332.out⟩, ⟨by repeat (first | (with_reducible first | exact HB.out | apply below_alloc | apply pw_below_drewN | apply below_drew1) | exact HB.out)⟩⟩
           ·rw [if_neg c14] at H
            exact absurd H (by simp)
          ·rw [if_neg c12] at H
           exact absurd H (by simp)
         ·rw [if_neg c11] at H
          exact absurd H (by simp)
        ·rw [if_neg c9] at H
         exact absurd H (by simp)
       ·rw [if_neg c8] at H
        exact absurd H (by simp)
      ·rw [if_neg c7] at H
       exact absurd H (by simp)
     ·rw [if_neg c6] at H
      have c6b0 : ((rd l0 x5_1) == 10) = false := beq_eq_false_iff_ne.mpr c6
      have c6b1 : ((rd l0 x5_1) != 10) = true := bne_iff_ne.mpr c6
      have H' := Aside0.mk H
      clear H
      have p327 : 0 ≤ (x5_1 : Int) := of_decide_eq_true (by first | (with_reducible assumption) | assumption)
      have q327 : x5_1 < (l0.length : Int) := of_decide_eq_true (by first | (with_reducible assumption) | assumption)
      obtain ⟨ad327, e327, hx327_0⟩ := Kd.at_int HR0.out x5_1 p327 q327
      cases e327
      replace hx327_0 := (HB.out.cell (World.block_lt_of_cell? w _ hx327_0)).trans hx327_0
      replace p327 := eq_true p327
      replace q327 := eq_true q327
      go_wp2
      go_roundg k1
      case measure => have := HK1.out; omega
      case rel => exact ⟨(x3_1), (x4_1), (wrap64 (x5_1 + 1)), (by first | rfl | (simp; done) | (simp [*]; done)), (by first | rfl | (simp; done) | (simp [*]; done)), H', ⟨by have := HK1.out; omega⟩, ⟨by (with_reducible repeat (first | apply Kd.R_alloc | apply Kd.R_drewN | apply Kd.R_drew)); exact HO_3.out⟩, ⟨by repeat (first | (with_reducible first | exact HB.out | apply below_alloc | apply pw_below_drewN | apply below_drew1) | exact HB.out)⟩⟩
    ·rw [if_neg c5] at H
     exact absurd H (by simp)
   ·rw [if_neg c4] at H
    have c4b0 : decide (x5_1 < (l0.length : Int)) = false := decide_eq_false c4
    clear c4
    by_cases c21 : 0 ≤ x4_1
    ·rw [if_pos c21] at H
     have c21b0 := eq_true c21
     have c21b1 : decide (0 ≤ x4_1) = true := decide_eq_true c21
     clear c21
     by_cases c22 : x4_1 ≤ (l0.length : Int)
     ·rw [if_pos c22] at H
      have c22b0 := eq_true c22
      have c22b1 : decide (x4_1 ≤ (l0.length : Int)) = true := decide_eq_true c22
      (try have c22m := Aside0.mk (Nat.min_eq_left (Int.toNat_le.2 c22)))
      clear c22
      obtain ⟨ji23, hji23⟩ : ∃ j_ : Int, (wrap64 ((x3_1.length : Int) - 1)) = j_ := ⟨_, rfl⟩
      replace H : (if 0 ≤ (ji23) then (if (ji23) < (x3_1.length : Int) then (some (x3_1.set ((ji23) : Int).toNat (strOfNums (l0.drop (x4_1 : Int).toNat)))) else (none)) else (none)) = some r := by first | (rw [hji23] at H; exact H) | (simp only [hji23] at H ⊢; exact H)
      have hji23w : (IntKind.i64.wrap ((x3_1.length : Int) - 1)) = ji23 := (i64_w _).trans hji23
      by_cases c24 : 0 ≤ (ji23)
      ·rw [if_pos c24] at H
       have c24b0 : decide (0 ≤ (ji23)) = true := decide_eq_true c24
       clear c24
       by_cases c25 : (ji23) < (x3_1.length : Int)
       ·rw [if_pos c25] at H
        have c25b0 : decide ((ji23) < (x3_1.length : Int)) = true := decide_eq_true c25
        clear c25
        obtain ⟨y334, hy334⟩ : ∃ y_ : List ByteArray, y_ = (x3_1.set ((ji23) : Int).toNat (strOfNums (l0.drop (x4_1 : Int).toNat))) := ⟨_, rfl⟩
        replace H : (some y334) = some r := by first | (rw [hy334]; with_reducible exact H) | (have H2_ := (Option.bind_some _ _).symm.trans H; rw [hy334]; with_reducible exact H2_) | (have H2_ := (Option.bind_some _ _).symm.trans H; with_reducible exact H2_) | with_reducible exact H | (rw [hy334]; exact H) | exact H
        have Ny334 := Aside0.mk hy334
        clear hy334
        obtain rfl := Option.some.inj H
        obtain ⟨Ao27, co27, eo27⟩ := Kd.R_slice HO_3.out
        subst eo27
        obtain ⟨i028, hi028, _, hsz28, _⟩ := info_parts info5
        obtain ⟨A28, hcut28, hA28, hC28⟩ := print_drop_of (P := Try.prog) (Value.int .u8) 0 48 5 .i64 Try.underlying48 hi028 hsz28 A0 c0 l0 x4_1 (of_decide_eq_true (by first | (with_reducible assumption) | assumption)) (of_decide_eq_true (by first | (with_reducible assumption) | assumption)) HC0.out
        have HR333 := Aside0.mk (Kd.C_of_reads (h1 := fun _ => rfl) (hA28 _ (Kd.reads_of_C HR0.out)))
        have HC333 := Aside0.mk hC28
        clear hA28 hC28 hi028 hsz28
        have hcv29 := Kd.C_string (P := Try.prog) (A := A28) (c := (c0 - x4_1.toNat)) Try.underlying48 Try.underlying5 Try.underlying9 (Kd.C_below HR333.out HB.out)
        (try (have hcv29b := hcv29; rw [show (List.drop (x4_1 : Int).toNat l0).length = l0.length - (x4_1 : Int).toNat from List.length_drop] at hcv29b))
        have p26 : 0 ≤ ((ji23) : Int) := of_decide_eq_true (by first | (with_reducible assumption) | assumption)
        have q26 : ((ji23) : Int) < ((x3_1.length : Int) : Int) := of_decide_eq_true (by first | (with_reducible assumption) | assumption)
        obtain ⟨go26, co26, eo26, gb26, gl26, cl26, HG26⟩ := Kd.R_form HO_3.out (by omega)
        (first | cases eo26 | (injection eo26 with ea_ en_ ec_; (first | subst ea_ | (injection ea_ with ea_; subst ea_)); subst ec_; clear en_))
        have GB26 := Aside0.mk gb26
        have GG26 := Aside0.mk HG26
        clear gb26 gl26 HG26
        obtain ⟨hx26_0, hf26_0⟩ := Kd.R_celln (⟨#[]⟩ : ByteArray) HO_3.out ((ji23) : Int) p26 q26
        replace p26 := eq_true p26
        replace q26 := eq_true q26
        have HP30 := Kd.R_putg HO_3.out ((ji23) : Int) (strOfNums (l0.drop (x4_1 : Int).toNat))
        go_wp2_with (first | ((with_reducible refine gate_store (t := 9) (p := 41) rfl ?_); refine store_event (t := 9) (p := 41) (v := ?vo_w31) (w1 := (wr.setCell ⟨go26, ((ji23) : Int).toNat, none⟩ (.string (strOfNums (l0.drop (x4_1 : Int).toNat))))) ?hg ?ho ?hn ?hr ?_; (case ho => rfl); (case hg => rfl); (case hn => rfl); (case hr => first | (go_simp; done) | (go_simp; rfl)); intro w31 hw; have hg : wr.grownBy w31 (some go26) := (by rw [hw]; exact HP30.2); have hp_ : Kd.R Kd.string 9 w31 w.heap.size (fun _ => True) (.slice (some ⟨go26, 0, none⟩) x3_1.length co27) y334 := (by rw [hw, Ny334.out]; exact HP30.1); clear HP30; have n0_ := Aside0.mk (hp_); have n1_ := Aside0.mk ((by rw [hw]; exact below_set (HB.out) GB26.out : Below w.heap.size w w31)); clear HO_3; clear HB; have HO_3 := n0_; have HB := n1_; clear n0_ n1_; clear hg hw hp_))
        go_ret
        exact ⟨_, by first | rfl | (simp [errW_none, errW_some] <;> rfl) | (simp only [← hji23]; first | rfl | (simp [errW_none, errW_some] <;> rfl)) | (simp [*, errW_none, errW_some] <;> rfl), by (with_reducible repeat (first | apply Kd.R_alloc | apply Kd.R_drewN | apply Kd.R_drew)); exact HO_3.out, by repeat (first | (with_reducible first | exact HB.out | apply below_alloc | apply pw_below_drewN | apply below_drew1) | exact HB.out)⟩
       ·rw [if_neg c25] at H
        exact absurd H (by simp)
      ·rw [if_neg c24] at H
       exact absurd H (by simp)
     ·rw [if_neg c22] at H
      exact absurd H (by simp)
    ·rw [if_neg c21] at H
     exact absurd H (by simp)
end Go.Proofs.Ytahpbpacjciddaa.Pr
end
section
namespace Go.Proofs.Ytahpbpacjciddaa.Pr
open Go.RowKit Go.Proofs.YtahpbpacjciddaaW.PrintWords Go.Proofs.YtahpbpacjciddaaW.PrintLast Go.Proofs.YtahpbpacjciddaaW.PrintMore
def partsOf : List Int → List Int → List (List Int)
 | cur, [] => [cur]
 | cur, b :: l => if b = 10 then cur :: partsOf [] l else partsOf (cur ++ [b]) l
theorem partsOf_length (l : List Int) : ∀ cur, (partsOf cur l).length = l.count 10 + 1 := by
 induction l with
 | nil => intro cur; rfl
 | cons b l ih =>
  intro cur
  by_cases h : b = 10
  ·subst h
   simp [partsOf, ih]
  ·simp [partsOf, ih, h]
theorem parts_loop (l : List Int) (hl : l.length ≤ 8796093000000) : ∀ (d i f : Nat) (done : List ByteArray) (z : ByteArray), i + d = l.length → f ≤ i → done.length ≤ i →
  Ev (fun k => sidingref13_Parts.l0 k l (done ++ [z]) (f : Int) (i : Int)) (done ++ (partsOf ((l.take i).drop f) (l.drop i)).map strOfNums) := by
 intro d
 induction d with
 | zero =>
  intro i f done z hi hf hd
  obtain rfl : i = l.length := by omega
  refine Ev.step (fun k => by rw [sidingref13_Parts.l0]) ?_
  refine Ev.neg (by omega) (Ev.pos (by omega) (Ev.pos (by omega) ?_))
  have hlen : (done ++ [z]).length = done.length + 1 := by simp
  rw [hlen, w64 (by omega)]
  refine Ev.pos (by omega) (Ev.pos (by omega) (Ev.rt ?_))
  have e : ((((done.length + 1 : Nat) : Int) - 1).toNat) = done.length := by omega
  rw [e, List.set_append_right _ _ (Nat.le_refl _)]
  simp [partsOf]
 | succ d ih =>
  intro i f done z hi hf hd
  have hlt : i < l.length := by omega
  refine Ev.step (fun k => by rw [sidingref13_Parts.l0]) ?_
  refine Ev.pos (by omega) (Ev.pos (by omega) ?_)
  rw [rd_at l i hlt, w64 (x := (i : Int) + 1) (by omega)]
  have ht : (l.take (i + 1)).drop f = (l.take i).drop f ++ [l[i]] := by
   rw [take_succ_at l i hlt, List.drop_append_of_le_length (by rw [List.length_take]; omega)]
  by_cases hb : l[i] = 10
  ·refine Ev.pos hb ?_
   refine Ev.pos (by omega) (Ev.pos (by omega) (Ev.pos (by omega) ?_))
   have hlen : (done ++ [z]).length = done.length + 1 := by simp
   rw [hlen, w64 (x := ((done.length + 1 : Nat) : Int) - 1) (by omega)]
   refine Ev.pos (by omega) (Ev.pos (by omega) (Ev.bs ?_))
   have e : ((((done.length + 1 : Nat) : Int) - 1).toNat) = done.length := by omega
   rw [e, List.set_append_right _ _ (Nat.le_refl _)]
   refine Ev.pos (by simp; omega) ?_
   have h := ih (i + 1) (i + 1) (done ++ [strOfNums ((l.take i).drop f)]) ⟨#[]⟩ (by omega) (Nat.le_refl _) (by simp; omega)
   have e2 : (l.take (i + 1)).drop (i + 1) = [] := List.drop_eq_nil_of_le (by rw [List.length_take]; omega)
   rw [e2] at h
   refine Ev.eq ?_ (by simpa using h)
   rw [drop_at l i hlt]
   simp [partsOf, hb]
  ·refine Ev.neg hb ?_
   have h := ih (i + 1) f done z (by omega) (by omega) (by omega)
   rw [ht] at h
   refine Ev.eq ?_ (by simpa using h)
   rw [drop_at l i hlt]
   simp [partsOf, hb]
theorem parts_ev (l : List Int) (hl : l.length ≤ 8796093000000) : Ev (fun k => sidingref13_Parts.f k l) ((partsOf [] l).map strOfNums) := by
 unfold sidingref13_Parts.f
 have h := parts_loop l hl l.length 0 0 [] ⟨#[]⟩ (by omega) (Nat.le_refl _) (Nat.le_refl _)
 simpa using h
theorem feedy_count (s : ByteArray) : feedy s = decide (0 < (bytesOf s).count 10) := by
 unfold feedy bytesOf
 generalize s.data.toList = l
 rw [Bool.eq_iff_iff, decide_eq_true_iff, decide_eq_true_iff]
 induction l with
 | nil => simp [Go.Lib.indexByte]
 | cons b l ih =>
  by_cases h : b = 10
  ·subst h
   simp [Go.Lib.indexByte]
  ·have h2 : ¬ ((b.toNat : Int) = 10) := by
    intro h3
    apply h
    apply UInt8.toNat_inj.1
    have : b.toNat = 10 := by omega
    rw [this]
    rfl
   have h1 : (b == 10) = false := by simpa using h
   simp only [Go.Lib.indexByte, h1, List.map_cons, List.count_cons]
   rw [if_neg (by simp)]
   have h3 : (((b.toNat : Int)) == 10) = false := by simpa using h2
   rw [h3]
   by_cases h4 : Go.Lib.indexByte l 10 = -1
   ·rw [h4]
    simp only [beq_self_eq_true, if_true]
    rw [h4] at ih
    simpa using ih
   ·have h5 : (Go.Lib.indexByte l 10 == -1) = false := by simpa using h4
    rw [h5, if_neg (by simp)]
    have h6 : 0 ≤ Go.Lib.indexByte l 10 + 1 ↔ 0 ≤ Go.Lib.indexByte l 10 := by
     constructor
     ·intro h7
      have := Go.Lib.indexByte l 10
      omega
     ·intro h7
      omega
    simpa [h6] using ih
end Go.Proofs.Ytahpbpacjciddaa.Pr
end
