/- LcsNames: limits and errors. Conditions: none beyond the statement's own. -/
import Derived.Test.YtcmcleoghbjboaaSAl14
import Derived.Test.YtcmcleoghbjboaaF3
namespace Go.Proofs.Ytcmcleoghbjboaa.Pure
open Go.RowKit Go.Proofs.YtcmcleoghbjboaaW.PrintWords Go.Proofs.YtcmcleoghbjboaaW.PrintLast Go.Proofs.YtcmcleoghbjboaaW.PrintMore Go.Proofs.Ytcmcleoghbjboaa.Pr
set_option linter.unusedVariables false
set_option linter.unusedSimpArgs false

theorem length_of (a b : List ByteArray) (e : Int) (ha : smallB a = true) (hb : smallB b = true) (h : bothErr a b = e) (he : e ≠ 0) : Ev (fun k => lcs_Length.f k a b) (0, e) := by
  have := length_ev a b (small_of_B ha) (small_of_B hb)
  rw [h, if_neg he] at this
  exact this
theorem best_of (a b : List ByteArray) (e : Int) (ha : smallB a = true) (hb : smallB b = true) (h : bothErr a b = e) (he : e ≠ 0) : Ev (fun k => lcs_Best.f k a b) ([], e) := by
  have := best_ev a b (small_of_B ha) (small_of_B hb)
  rw [h, if_neg he] at this
  exact this
theorem distance_of (a b : List ByteArray) (e : Int) (ha : smallB a = true) (hb : smallB b = true) (h : bothErr a b = e) (he : e ≠ 0) : Ev (fun k => lcs_Distance.f k a b) (0, e) := by
  have := distance_ev a b (small_of_B ha) (small_of_B hb)
  rw [h, if_neg he] at this
  exact this
theorem check_of (a b : List ByteArray) (m : List S31) (e : Int) (ha : smallB a = true) (hb : smallB b = true) (h : matchErr a b m = e) : lcs_Check.f a b m = some e := by
  unfold lcs_Check.f
  rw [ha, hb, h]
  rfl
theorem LcsNames : sidinglaw14_LcsNames.Pure := by
  apply Ev.rounds (g := fun k => sidinglaw14_LcsNames.f k)
  unfold sidinglaw14_LcsNames.f
  have a1 := length_of [] [⟨#[97]⟩] 8 (by decide) (by decide) (by decide +kernel) (by decide)
  have a2 := best_of [⟨#[97]⟩] (List.replicate 61 ⟨#[]⟩) 4 (by decide) (by decide) (by decide +kernel) (by decide)
  have a3 := distance_of (List.replicate 61 ⟨#[]⟩) [] 4 (by decide) (by decide) (by decide +kernel) (by decide)
  have a4 := distance_of [⟨#[10]⟩] (List.replicate 61 ⟨#[]⟩) 8 (by decide) (by decide) (by decide +kernel) (by decide)
  have b1 := check_of [⟨#[97]⟩] [⟨#[97]⟩] (List.replicate 61 z31) 4 (by decide) (by decide) (by decide +kernel)
  have b2 := check_of [⟨#[97]⟩, ⟨#[97]⟩] [⟨#[97]⟩, ⟨#[97]⟩] [⟨0, 0⟩, ⟨1, 0⟩] 8 (by decide) (by decide) (by decide +kernel)
  have b3 := check_of [⟨#[97]⟩, ⟨#[97]⟩] [⟨#[97]⟩, ⟨#[97]⟩] [⟨0, 0⟩, ⟨0, 1⟩] 8 (by decide) (by decide) (by decide +kernel)
  have b4 := check_of [⟨#[97]⟩, ⟨#[97]⟩] [⟨#[97]⟩, ⟨#[97]⟩] [⟨1, 1⟩, ⟨0, 0⟩] 8 (by decide) (by decide) (by decide +kernel)
  have b5 := check_of [⟨#[97]⟩] [⟨#[98]⟩] [⟨0, 0⟩] 8 (by decide) (by decide) (by decide +kernel)
  have b6 := check_of [⟨#[97]⟩] [⟨#[97]⟩] [⟨1, 0⟩] 8 (by decide) (by decide) (by decide +kernel)
  have b7 := check_of [⟨#[97]⟩] [⟨#[97]⟩] [⟨0, (-1)⟩] 8 (by decide) (by decide) (by decide +kernel)
  have b8 := check_of [⟨#[97]⟩, ⟨#[97]⟩] [⟨#[97]⟩, ⟨#[97]⟩] [⟨0, 0⟩, ⟨1, 1⟩] 0 (by decide) (by decide) (by decide +kernel)
  have b9 := check_of [⟨#[97]⟩] [] [] 8 (by decide) (by decide) (by decide +kernel)
  have s60 : small (List.replicate 60 ⟨#[]⟩) := small_of_B (by decide)
  have c1 := length_ev _ _ s60 s60
  have e1 : bothErr (List.replicate 60 ⟨#[]⟩) (List.replicate 60 ⟨#[]⟩) = 0 := by decide +kernel
  rw [if_pos e1, lcsLen_self, List.length_replicate] at c1
  have c2 := distance_ev [⟨#[97]⟩] [⟨#[98]⟩, ⟨#[99]⟩] (small_of_B (by decide)) (small_of_B (by decide))
  have e2 : bothErr [⟨#[97]⟩] [⟨#[98]⟩, ⟨#[99]⟩] = 0 := by decide +kernel
  have l2 : lcsLen [(⟨#[97]⟩ : ByteArray)] [⟨#[98]⟩, ⟨#[99]⟩] = 0 := by
    have := bestOf_length [(⟨#[97]⟩ : ByteArray)] [⟨#[98]⟩, ⟨#[99]⟩]
    have m : bestOf [(⟨#[97]⟩ : ByteArray)] [⟨#[98]⟩, ⟨#[99]⟩] = [] := by
      rw [bestOf_gOf]
      decide +kernel
    rw [m] at this
    exact this.symm
  rw [if_pos e2, l2] at c2
  refine Ev.bs (Ev.bs (Ev.bd a1 (Ev.pos (by decide) (Ev.bd a2 (Ev.bd a3 (Ev.bd a4 (Ev.bc b1 (Ev.bc b2 (Ev.bc b3 (Ev.bc b4 (Ev.bc b5 (Ev.bc b6 (Ev.bc b7 (Ev.bc b8 (Ev.bc b9 (Ev.pos (by decide) (Ev.bd c1 (Ev.bd c2 (Ev.bc (a := true) rfl ?_)))))))))))))))))))
  exact Ev.pos rfl (Ev.pos rfl (Ev.pos rfl (Ev.pos rfl (Ev.pos rfl (Ev.pos rfl (Ev.pos rfl (Ev.pos rfl (Ev.pos rfl (Ev.pos rfl (Ev.pos rfl (Ev.pos rfl (Ev.pos rfl (Ev.pos rfl (Ev.pos rfl (Ev.pos rfl (Ev.pos rfl (Ev.rt rfl)))))))))))))))))
end Go.Proofs.Ytcmcleoghbjboaa.Pure
