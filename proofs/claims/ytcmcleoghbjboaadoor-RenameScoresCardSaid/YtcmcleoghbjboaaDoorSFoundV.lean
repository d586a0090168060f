/- The value of the reference's Found. -/
import Derived.Test.YtcmcleoghbjboaaDoorFound
namespace Go.Proofs.YtcmcleoghbjboaaDoor.Pr
open Go.RowKit Go.Proofs.YtcmcleoghbjboaaDoorW.PrintWords Go.Proofs.YtcmcleoghbjboaaDoorW.PrintLast Go.Proofs.YtcmcleoghbjboaaDoorW.PrintMore
set_option linter.unusedVariables false
set_option linter.unusedSimpArgs false

theorem found_val (a b : List ByteArray) (ha : a.length ≤ 60) (hb : b.length ≤ 60) : ref14_Found.f a b = some ((bestOf a b).map prOf) := by
  unfold ref14_Found.f
  rw [if_pos (by rw [decide_eq_true ha, decide_eq_true hb]; rfl), bestOf_gOf]
  rfl
theorem best_le (a b : List ByteArray) : (bestOf a b).length ≤ a.length := by
  rw [bestOf_length]
  exact lcsLen_le_left a b
end Go.Proofs.YtcmcleoghbjboaaDoor.Pr
