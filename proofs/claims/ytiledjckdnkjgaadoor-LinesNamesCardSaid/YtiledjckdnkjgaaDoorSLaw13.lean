/- The plain side of the laws of lines: the chapter's examples. -/
import Derived.Test.YtiledjckdnkjgaaDoorSText
import Derived.Test.YtiledjckdnkjgaaDoorSPartsP
import Derived.Test.YtiledjckdnkjgaaDoorF8
namespace Go.Proofs.YtiledjckdnkjgaaDoor.Pr
open Go.RowKit Go.Proofs.YtiledjckdnkjgaaDoorW.PrintWords Go.Proofs.YtiledjckdnkjgaaDoorW.PrintLast Go.Proofs.YtiledjckdnkjgaaDoorW.PrintMore
set_option linter.unusedVariables false
set_option linter.unusedSimpArgs false

theorem small_dec (l : List ByteArray) (h : smallB l = true) : small l := small_of_B h
theorem alive13_ev : Ev (fun k => sidinglaw13_alive.f k) true := by
  unfold sidinglaw13_alive.f
  have s1 := split_val [97, 10, 10, 98, 10] (by decide)
  have e1 : textErr [97, 10, 10, 98, 10] = 0 := by decide
  have p1 : (partsOf [] [97, 10, 10, 98, 10]).map strOfNums = [⟨#[97]⟩, ⟨#[]⟩, ⟨#[98]⟩, ⟨#[]⟩] := by kernel_rfl
  rw [if_pos e1, p1] at s1
  have s2 := split_val [] (by decide)
  have e2 : textErr [] = 0 := by decide
  have p2 : (partsOf [] []).map strOfNums = [⟨#[]⟩] := by kernel_rfl
  rw [if_pos e2, p2] at s2
  have c1 := common_ev [⟨#[97]⟩, ⟨#[98]⟩, ⟨#[99]⟩] [⟨#[97]⟩, ⟨#[99]⟩] (small_dec _ (by decide)) (small_dec _ (by decide))
  have q1 : commonR [⟨#[97]⟩, ⟨#[98]⟩, ⟨#[99]⟩] [⟨#[97]⟩, ⟨#[99]⟩] = (1, 1, 0) := by decide +kernel
  rw [q1] at c1
  have c2 := common_ev [⟨#[97]⟩, ⟨#[97]⟩] [⟨#[97]⟩, ⟨#[97]⟩, ⟨#[97]⟩] (small_dec _ (by decide)) (small_dec _ (by decide))
  have q2 : commonR [⟨#[97]⟩, ⟨#[97]⟩] [⟨#[97]⟩, ⟨#[97]⟩, ⟨#[97]⟩] = (2, 0, 0) := by decide +kernel
  rw [q2] at c2
  have r1 := replace_ev [⟨#[97]⟩, ⟨#[98]⟩, ⟨#[99]⟩] 1 2 [⟨#[120]⟩, ⟨#[121]⟩] (small_dec _ (by decide)) (small_dec _ (by decide)) (by decide)
  have q3 : replaceR [⟨#[97]⟩, ⟨#[98]⟩, ⟨#[99]⟩] 1 2 [⟨#[120]⟩, ⟨#[121]⟩] = ([⟨#[97]⟩, ⟨#[120]⟩, ⟨#[121]⟩, ⟨#[99]⟩], 0) := by decide +kernel
  rw [q3] at r1
  have m1 := same_ev [⟨#[97]⟩, ⟨#[]⟩, ⟨#[98]⟩, ⟨#[]⟩] [⟨#[97]⟩, ⟨#[]⟩, ⟨#[98]⟩, ⟨#[]⟩] (by decide)
  have m2 := same_ev [⟨#[]⟩] [⟨#[]⟩] (by decide)
  have m3 := same_ev [⟨#[97]⟩, ⟨#[120]⟩, ⟨#[121]⟩, ⟨#[99]⟩] [⟨#[97]⟩, ⟨#[120]⟩, ⟨#[121]⟩, ⟨#[99]⟩] (by decide)
  refine Ev.bc s1 (Ev.bc s2 (Ev.bd c1 (Ev.bd c2 (Ev.bd r1 (Ev.pos rfl (Ev.pos rfl (Ev.pos rfl (Ev.pos rfl (Ev.pos rfl (Ev.bd m1 (Ev.pos (by simp) (Ev.bd m2 (Ev.pos (by simp) (Ev.pos rfl (Ev.pos rfl (Ev.pos rfl (Ev.pos rfl (Ev.bd m3 (Ev.rt (by simp))))))))))))))))))))
end Go.Proofs.YtiledjckdnkjgaaDoor.Pr
