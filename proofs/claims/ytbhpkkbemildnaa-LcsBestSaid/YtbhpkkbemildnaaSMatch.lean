/- The plain side of matchings: Check of the program and of the reference, and which matching comes before another. -/
import Derived.Test.YtbhpkkbemildnaaSLaw14
import Derived.Test.YtbhpkkbemildnaaLcsCheck
import Derived.Test.YtbhpkkbemildnaaF18
import Derived.Test.YtbhpkkbemildnaaF29
namespace Go.Proofs.Ytbhpkkbemildnaa.Pr
open Go.RowKit Go.Proofs.YtbhpkkbemildnaaW.PrintWords Go.Proofs.YtbhpkkbemildnaaW.PrintLast Go.Proofs.YtbhpkkbemildnaaW.PrintMore
set_option linter.unusedVariables false
set_option linter.unusedSimpArgs false

theorem check_val (a b : List ByteArray) (m : List S52) (ha : small a) (hb : small b) : lcs_Check.f a b m = some (matchErr a b m) := by
  unfold lcs_Check.f
  rw [if_pos]
  rw [Bool.and_eq_true]
  exact ⟨B_of_small ha, B_of_small hb⟩
theorem rd_pair (m : List S52) (i : Nat) (h : i < m.length) : rd_T52 m (i : Int) = m[i] := by simp [rd_T52, h]
/-- The pair before index i, or the one before all. -/
def lastOf (m : List S52) (i : Nat) : Int × Int := if i = 0 then (-1, -1) else ((rd_T52 m ((i : Int) - 1)).f0, (rd_T52 m ((i : Int) - 1)).f1)
theorem matching_loop (a b : List ByteArray) (m : List S52) (ha : a.length ≤ 1000000) (hb : b.length ≤ 1000000) (hm : m.length ≤ 1000000) : ∀ (d i : Nat), i + d = m.length → (0 < i → 0 ≤ (lastOf m i).1 ∧ 0 ≤ (lastOf m i).2) → Ev (fun k => sidingref14_Matching.l0 k a b m (i : Int)) (matchFrom a b (lastOf m i) (m.drop i)) := by
  intro d
  induction d with
  | zero =>
    intro i hi _
    refine Ev.step (fun k => by rw [sidingref14_Matching.l0]) ?_
    rw [List.drop_eq_nil_of_le (by omega)]
    exact Ev.neg (by omega) (Ev.now _)
  | succ d ih =>
    intro i hi hlast
    have hlt : i < m.length := by omega
    refine Ev.step (fun k => by rw [sidingref14_Matching.l0]) ?_
    rw [rd_pair m i hlt]
    obtain ⟨p, hp⟩ : ∃ p, p = m[i] := ⟨_, rfl⟩
    have hd : m.drop i = p :: m.drop (i + 1) := by rw [drop_at m i hlt, hp]
    rw [hd, ← hp]
    show Ev _ (pairOk a b (lastOf m i) (p.f0, p.f1) && matchFrom a b (p.f0, p.f1) (m.drop (i + 1)))
    have hgo : ∀ x : Bool, x = true → pairOk a b (lastOf m i) (p.f0, p.f1) = false → Ev (fun k => sidingref14_Matching.j1 k a b m (i : Int) x) (pairOk a b (lastOf m i) (p.f0, p.f1) && matchFrom a b (p.f0, p.f1) (m.drop (i + 1))) := by
      intro x hx hf
      subst hx
      refine Ev.step (fun k => by rw [sidingref14_Matching.j1]) ?_
      exact Ev.pos rfl (Ev.rt (by rw [hf]; rfl))
    have hl1 : -1 ≤ (lastOf m i).1 ∧ -1 ≤ (lastOf m i).2 := by
      by_cases h0 : i = 0
      · unfold lastOf
        rw [if_pos h0]
        exact ⟨by omega, by omega⟩
      · have := hlast (by omega)
        omega
    refine Ev.pos (by omega) (Ev.pos (by omega) ?_)
    by_cases c1 : p.f0 < 0
    · exact Ev.pos c1 (hgo true rfl (by unfold pairOk; rw [decide_eq_false (show ¬ ((lastOf m i).1 < p.f0) by omega)]; simp))
    · refine Ev.neg c1 ?_
      by_cases c2 : p.f0 ≥ (a.length : Int)
      · exact Ev.pos c2 (hgo true rfl (by unfold pairOk; rw [decide_eq_false (show ¬ (p.f0 < (a.length : Int)) by omega)]; simp))
      · refine Ev.neg c2 ?_
        by_cases c3 : p.f1 < 0
        · exact Ev.pos c3 (hgo true rfl (by unfold pairOk; rw [decide_eq_false (show ¬ ((lastOf m i).2 < p.f1) by omega)]; simp))
        · refine Ev.neg c3 ?_
          by_cases c4 : p.f1 ≥ (b.length : Int)
          · exact Ev.pos c4 (hgo true rfl (by unfold pairOk; rw [decide_eq_false (show ¬ (p.f1 < (b.length : Int)) by omega)]; simp))
          · refine Ev.neg c4 (Ev.pos (by omega) (Ev.pos (by omega) (Ev.pos (by omega) (Ev.pos (by omega) ?_))))
            by_cases c5 : rdOf ByteArray.empty a p.f0 = rdOf ByteArray.empty b p.f1
            · have hx : ((rdOf ByteArray.empty a p.f0).toList != (rdOf ByteArray.empty b p.f1).toList) = false := by rw [c5]; simp
              rw [hx]
              refine Ev.step (fun k => by rw [sidingref14_Matching.j1]) ?_
              refine Ev.neg (by decide) ?_
              have hnext : lastOf m (i + 1) = (p.f0, p.f1) := by
                unfold lastOf
                rw [if_neg (by omega)]
                have e : ((i + 1 : Nat) : Int) - 1 = (i : Int) := by omega
                rw [e, rd_pair m i hlt, ← hp]
              have hrest := ih (i + 1) (by omega) (fun _ => by rw [hnext]; exact ⟨by show 0 ≤ p.f0; omega, by show 0 ≤ p.f1; omega⟩)
              rw [hnext] at hrest
              by_cases c6 : (i : Int) > 0
              · refine Ev.pos c6 (Ev.pos (by omega) (Ev.pos (by omega) ?_))
                rw [w64 (x := (i : Int) - 1) (by omega), w64 (x := (i : Int) + 1) (by omega)]
                refine Ev.pos (by omega) (Ev.pos (by omega) ?_)
                have hlo : lastOf m i = ((rd_T52 m ((i : Int) - 1)).f0, (rd_T52 m ((i : Int) - 1)).f1) := by
                  unfold lastOf
                  rw [if_neg (by omega)]
                rw [rd_pair m i hlt, ← hp]
                rw [hlo]
                by_cases c7 : p.f0 ≤ (rd_T52 m ((i : Int) - 1)).f0
                · refine Ev.pos c7 (Ev.rt ?_)
                  unfold pairOk
                  rw [decide_eq_false (show ¬ ((rd_T52 m ((i : Int) - 1)).f0 < p.f0) by omega)]
                  simp
                · refine Ev.neg c7 ?_
                  by_cases c8 : p.f1 ≤ (rd_T52 m ((i : Int) - 1)).f1
                  · refine Ev.pos c8 (Ev.rt ?_)
                    unfold pairOk
                    rw [decide_eq_false (show ¬ ((rd_T52 m ((i : Int) - 1)).f1 < p.f1) by omega)]
                    simp
                  · refine Ev.neg c8 (Ev.eq ?_ hrest)
                    unfold pairOk
                    simp only [decide_eq_true (show (rd_T52 m ((i : Int) - 1)).f0 < p.f0 by omega), decide_eq_true (show (rd_T52 m ((i : Int) - 1)).f1 < p.f1 by omega), decide_eq_true (show p.f0 < (a.length : Int) by omega), decide_eq_true (show p.f1 < (b.length : Int) by omega), decide_eq_true c5]
                    simp
              · refine Ev.neg c6 ?_
                rw [w64 (x := (i : Int) + 1) (by omega)]
                refine Ev.eq ?_ hrest
                have hlo : lastOf m i = (-1, -1) := by
                  unfold lastOf
                  rw [if_pos (by omega)]
                rw [hlo]
                unfold pairOk
                simp only [decide_eq_true (show (-1 : Int) < p.f0 by omega), decide_eq_true (show (-1 : Int) < p.f1 by omega), decide_eq_true (show p.f0 < (a.length : Int) by omega), decide_eq_true (show p.f1 < (b.length : Int) by omega), decide_eq_true c5]
                simp
            · have hx : ((rdOf ByteArray.empty a p.f0).toList != (rdOf ByteArray.empty b p.f1).toList) = true := by simpa using fun e => c5 (toList_inj.1 e)
              exact hgo _ hx (by unfold pairOk; rw [decide_eq_false c5]; simp)
theorem matching_ev (a b : List ByteArray) (m : List S52) (ha : a.length ≤ 1000000) (hb : b.length ≤ 1000000) (hm : m.length ≤ 1000000) : Ev (fun k => sidingref14_Matching.f k a b m) (matchFrom a b (-1, -1) m) := by
  unfold sidingref14_Matching.f
  have := matching_loop a b m ha hb hm m.length 0 (by omega) (fun h => by omega)
  simpa [lastOf] using this
theorem rcheck_ev (a b : List ByteArray) (m : List S52) (ha : tiny a) (hb : tiny b) (hm : m.length ≤ 1000000) : Ev (fun k => sidingref14_Check.f k a b m) (matchErr a b m) := by
  unfold sidingref14_Check.f matchErr
  refine Ev.bd (both_ev a b ha hb) ?_
  by_cases h : bothErr a b = 0
  · rw [if_pos h]
    obtain ⟨h1, h2⟩ := bothErr_zero.1 h
    obtain ⟨l1, _⟩ := linesErr_zero h1
    obtain ⟨l2, _⟩ := linesErr_zero h2
    refine Ev.pos h ?_
    by_cases h3 : 60 < m.length
    · rw [if_pos h3]
      exact Ev.pos (by omega) (Ev.now _)
    · rw [if_neg h3]
      refine Ev.neg (by omega) (Ev.bd (matching_ev a b m (by omega) (by omega) hm) ?_)
      by_cases h4 : matchFrom a b (-1, -1) m = true
      · exact Ev.pos h4 (Ev.rt (if_pos h4).symm)
      · exact Ev.neg h4 (Ev.rt (if_neg h4).symm)
  · exact Ev.neg h (Ev.bd (both_ev a b ha hb) (Ev.rt (if_neg h).symm))
end Go.Proofs.Ytbhpkkbemildnaa.Pr
