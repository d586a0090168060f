/- BlameLines: each line has one origin, which has it. Conditions: none beyond the statement's own. -/
import Derived.Test.YtaifdgfegloafaaSBlame4
import Derived.Test.YtaifdgfegloafaaF5
namespace Go.Proofs.Ytaifdgfegloafaa.Pure
open Go.RowKit Go.Proofs.YtaifdgfegloafaaW.PrintWords Go.Proofs.YtaifdgfegloafaaW.PrintLast Go.Proofs.YtaifdgfegloafaaW.PrintMore Go.Proofs.Ytaifdgfegloafaa.Pr
set_option linter.unusedVariables false
set_option linter.unusedSimpArgs false

theorem org_same (v : List (List ByteArray)) : ∀ (n i : Nat), (v.getD (orgN v n i).1 [])[(orgN v n i).2]? = (v.getD n [])[i]?
  | 0, i => rfl
  | n + 1, i => by
    simp only [orgN]
    cases e : partN (bmN v n) i with
    | none => rfl
    | some j =>
      simp only
      rw [org_same v n j]
      exact (bmN_match v n).same (j, i) (partN_mem e)
theorem org_mono (v : List (List ByteArray)) : ∀ (n i j : Nat), i < j → (orgN v n i).1 = (orgN v n j).1 → (orgN v n i).2 < (orgN v n j).2
  | 0, i, j, h, _ => h
  | n + 1, i, j, h, hv => by
    simp only [orgN] at hv ⊢
    cases e : partN (bmN v n) i with
    | none =>
      cases e2 : partN (bmN v n) j with
      | none => exact h
      | some y =>
        rw [e, e2] at hv
        simp only at hv
        have := orgN_le v n y
        omega
    | some x =>
      cases e2 : partN (bmN v n) j with
      | none =>
        rw [e, e2] at hv
        simp only at hv
        have := orgN_le v n x
        omega
      | some y =>
        rw [e, e2] at hv
        simp only at hv ⊢
        refine org_mono v n x y ?_ hv
        have h1 := partN_mem e
        have h2 := partN_mem e2
        obtain ⟨p, hp, hpe⟩ := List.getElem_of_mem h1
        obtain ⟨q, hq, hqe⟩ := List.getElem_of_mem h2
        have hpw := List.pairwise_iff_getElem.1 (bmN_match v n).pairs
        rcases Nat.lt_trichotomy p q with c | c | c
        · have := hpw p q hp hq c
          rw [hpe, hqe] at this
          exact this.1
        · subst c
          rw [hpe] at hqe
          simp at hqe
          omega
        · have := hpw q p hq hp c
          rw [hpe, hqe] at this
          have := this.2
          simp only at this
          omega
theorem lines_l0 {v : List (List ByteArray)} (h : ValidV v) : ∀ (d i : Nat), i + d = (rowO v (v.length - 1)).length → ∀ y : List Int, y.length = v.length → (∀ n, n < v.length → ∀ j, i ≤ j → j < (rowO v (v.length - 1)).length → (orgN v (v.length - 1) j).1 = n → rd y (n : Int) ≤ ((orgN v (v.length - 1) j).2 : Int)) → Ev (fun k => sidinglaw23_BlameLines.l0 k v true (rowO v (v.length - 1)) (hist v.length (rowO v (v.length - 1))) (v.getD (v.length - 1) []) (hist v.length ((rowO v (v.length - 1)).take i)) y (i : Int)) true := by
  have hl := h.len
  have hr : (rowO v (v.length - 1)).length ≤ 60 := by rw [rowO_length]; exact (h.lines (v.length - 1) (by omega)).2.2.1
  intro d
  induction d with
  | zero =>
    intro i hi y hy hq
    refine Ev.step (fun k => by rw [sidinglaw23_BlameLines.l0]) ?_
    rw [List.take_of_length_le (by omega)]
    exact Ev.neg (by omega) (Ev.pos rfl (Ev.bd (ints_ev _ (by rw [hist_length]; omega)) (Ev.now _)))
  | succ d ih =>
    intro i hi y hy hq
    have hlt : i < (rowO v (v.length - 1)).length := by omega
    have hlt2 : i < (v.getD (v.length - 1) []).length := by rw [← rowO_length]; exact hlt
    refine Ev.step (fun k => by rw [sidinglaw23_BlameLines.l0]) ?_
    rw [rdO_get _ i hlt, rowO_get _ _ i hlt, hist_length, hy]
    have e0 : (orgS v (v.length - 1) i).f0 = (((orgN v (v.length - 1) i).1 : Nat) : Int) := rfl
    have e1 : (orgS v (v.length - 1) i).f1 = (((orgN v (v.length - 1) i).2 : Nat) : Int) := rfl
    rw [e0, e1]
    have hn : (orgN v (v.length - 1) i).1 < v.length := by have := orgN_le v (v.length - 1) i; omega
    have hs := org_same v (v.length - 1) i
    rw [List.getElem?_eq_getElem hlt2] at hs
    have hb : (orgN v (v.length - 1) i).2 < (v.getD (orgN v (v.length - 1) i).1 []).length := (List.getElem?_eq_some_iff.1 hs).1
    have hg := (h.lines _ hn).2.2.1
    have hq1 := hq _ hn i (Nat.le_refl i) hlt rfl
    rw [rdL_getD, rdOf_at _ _ _ hb, rdOf_at _ _ _ hlt2, (List.getElem?_eq_some_iff.1 hs).2]
    have hf : (((rowO v (v.length - 1)).take i).filter fun o => decide (o.f0 = (((orgN v (v.length - 1) i).1 : Nat) : Int))).length ≤ 60 := Nat.le_trans (List.length_filter_le _ _) (by rw [List.length_take]; omega)
    refine Ev.pos (by omega) (Ev.pos (by omega) (Ev.neg (by omega) (Ev.neg (by omega) (Ev.neg (by omega) (Ev.pos (by omega) (Ev.pos (by omega) (Ev.neg (by omega) (Ev.pos (by omega) (Ev.pos (by omega) (Ev.pos (by omega) (Ev.pos rfl (Ev.pos (by omega) (Ev.neg (by omega) (Ev.pos (by omega) ?_))))))))))))))
    rw [hist_at _ _ _ hn, w64 (x := (i : Int) + 1) (by omega), w64 (x := (((orgN v (v.length - 1) i).2 : Nat) : Int) + 1) (by omega), w64 (by omega), Int.toNat_natCast, hist_step v.length _ (orgS v (v.length - 1) i) _ hn e0]
    have := ih (i + 1) (by omega) (y.set (orgN v (v.length - 1) i).1 ((((orgN v (v.length - 1) i).2 : Nat) : Int) + 1)) (by rw [List.length_set]; exact hy) (by
      intro n hn2 j hj hj2 hjn
      rw [rd_at _ n (by rw [List.length_set]; omega), List.getElem_set]
      by_cases c : (orgN v (v.length - 1) i).1 = n
      · rw [if_pos c]
        have := org_mono v (v.length - 1) i j (by omega) (by omega)
        omega
      · rw [if_neg c]
        have := hq n hn2 j (by omega) hj2 hjn
        rw [rd_at y n (by omega)] at this
        exact this)
    rw [take_succ_at _ i hlt, rowO_get _ _ i hlt] at this
    exact this
theorem BlameLines : sidinglaw23_BlameLines.Pure := by
  intro v hv
  apply Ev.rounds (g := fun k => sidinglaw23_BlameLines.f k v)
  unfold sidinglaw23_BlameLines.f
  have hlv : v.length ≤ 9000000000000000000 := by omega
  have hlx : ∀ x ∈ v, x.length ≤ 9000000000000000000 := fun x hx => by have := (hv.2 x hx).1; omega
  refine Ev.bd alive23_ev (Ev.bd (fitV_ev v hlv hlx) ?_)
  by_cases h1 : fitV v = true
  · refine Ev.pos h1 ?_
    have h := fitV_valid h1
    have hl := h.len
    have b := blame_ev v h.sm hlv
    have c := count_ev v h.sm hlv
    rw [if_pos h.ok] at b c
    refine Ev.step (fun k => by rw [sidinglaw23_BlameLines.j0]) ?_
    have e1 : wrap64 ((v.length : Int) - 1) = ((v.length - 1 : Nat) : Int) := by rw [w64 (by omega)]; omega
    rw [e1, rdL_getD]
    refine Ev.neg (by decide) (Ev.bd b (Ev.bd c (Ev.pos (by omega) (Ev.pos (by omega) (Ev.pos rfl (Ev.pos rfl (Ev.pos (by rw [rowO_length]) ?_)))))))
    refine Ev.step (fun k => by rw [sidinglaw23_BlameLines.j1]) ?_
    refine Ev.neg (by rw [hist_length]; simp) (Ev.pos (by omega) (Ev.pos (by omega) ?_))
    have := lines_l0 h (rowO v (v.length - 1)).length 0 (by omega) (List.replicate v.length 0) (by simp) (by
      intro n hn j _ _ _
      rw [rd_at _ n (by simpa using hn)]
      simp)
    rw [List.take_zero, hist_nil] at this
    rw [Int.toNat_natCast]
    exact this
  · refine Ev.neg h1 (Ev.step (fun k => by rw [sidinglaw23_BlameLines.j0]) ?_)
    exact Ev.pos rfl (Ev.now _)
end Go.Proofs.Ytaifdgfegloafaa.Pure
