/- What the reference's Check and Long of hunks compute. -/
import Derived.Test.YtnajpgimhoighaaSHunkD
import Derived.Test.YtnajpgimhoighaaF22
import Derived.Test.YtnajpgimhoighaaF9
namespace Go.Proofs.Ytnajpgimhoighaa.Pr
open Go.RowKit Go.Proofs.YtnajpgimhoighaaW.PrintWords Go.Proofs.YtnajpgimhoighaaW.PrintLast Go.Proofs.YtnajpgimhoighaaW.PrintMore
set_option linter.unusedVariables false
set_option linter.unusedSimpArgs false

theorem rplain_loop (l : List ByteArray) (ht : tiny l) (hl : l.length ≤ 1000000) : ∀ (d i : Nat), i + d = l.length →
    Ev (fun k => sidingref15_Plain.l0 k l (i : Int)) (!(l.drop i).any (fun s => decide (2000 < s.size)) && (decide (l.length ≤ 60) && !l.any feedy)) := by
  intro d
  induction d with
  | zero =>
    intro i hi
    obtain rfl : i = l.length := by omega
    refine Ev.step (fun k => by rw [sidingref15_Plain.l0]) ?_
    refine Ev.neg (by omega) ?_
    rw [List.drop_length]
    by_cases h : l.length ≤ 60
    · refine Ev.pos (by omega) (Ev.bc (feed_ev l ht) (Ev.rt ?_))
      simp [h]
    · refine Ev.neg (by omega) (Ev.rt ?_)
      simp [h]
  | succ d ih =>
    intro i hi
    have h : i < l.length := by omega
    refine Ev.step (fun k => by rw [sidingref15_Plain.l0]) ?_
    refine Ev.pos (by omega) (Ev.pos (by omega) ?_)
    rw [rdOf_at _ _ _ h, drop_at l i h, List.any_cons]
    by_cases h3 : 2000 < l[i].size
    · exact Ev.pos (by omega) (Ev.rt (by simp [h3]))
    · refine Ev.neg (by omega) ?_
      rw [w64 (by omega)]
      have := ih (i + 1) (by omega)
      simpa [h3] using this
theorem rplain_ev (l : List ByteArray) (ht : tiny l) (hl : l.length ≤ 1000000) : Ev (fun k => sidingref15_Plain.f k l) (plainL l) := by
  unfold sidingref15_Plain.f
  have h := rplain_loop l ht hl l.length 0 (by omega)
  refine Ev.eq ?_ h
  rw [plainL, any_wide, List.drop_zero]
  cases l.any (fun s => decide (2000 < s.size)) <;> cases decide (l.length ≤ 60) <;> cases l.any feedy <;> rfl

theorem rvalid_ev (h : S46) (ht : tinyH h) : Ev (fun k => sidingref15_Valid.f k h.f0 h.f1 h.f2) (validH h) := by
  unfold sidingref15_Valid.f validH
  by_cases h1 : h.f0 ≥ 0
  · refine Ev.pos h1 ?_
    rw [decide_eq_true (show 0 ≤ h.f0 from h1)]
    by_cases h2 : h.f0 ≤ 60
    · refine Ev.pos h2 (Ev.bd (rplain_ev _ ht.1 ht.2.2.1) ?_)
      rw [decide_eq_true h2]
      cases h3 : plainL h.f1 with
      | false => exact Ev.neg (by decide) (Ev.rt rfl)
      | true =>
        refine Ev.pos rfl (Ev.bd (rplain_ev _ ht.2.1 ht.2.2.2) ?_)
        cases h4 : plainL h.f2 with
        | false => exact Ev.neg (by decide) (Ev.rt rfl)
        | true =>
          refine Ev.pos rfl ?_
          by_cases h5 : 0 < h.f1.length
          · exact Ev.pos (by omega) (Ev.rt (by simp; omega))
          · refine Ev.neg (by omega) (Ev.rt ?_)
            simp only [Bool.true_and]
            rw [Bool.eq_iff_iff, decide_eq_true_iff, decide_eq_true_iff]
            omega
    · exact Ev.neg h2 (Ev.rt (by simp [h2]))
  · exact Ev.neg h1 (Ev.rt (by simp [show ¬ 0 ≤ h.f0 from h1]))

/-- Where a hunk may begin, by the hunk before. -/
def freeAt (l : List S46) (i : Nat) : Int := if h : 0 < i ∧ i - 1 < l.length then l[i - 1].f0 + (l[i - 1].f1.length : Int) + 1 else 0
theorem rcheck_loop (l : List S46) (hl : l.length ≤ 40) (ht : ∀ h ∈ l, tinyH h) : ∀ (d i : Nat), i + d = l.length → (∀ j (hj : j < l.length), j < i → validH l[j] = true) →
    Ev (fun k => sidingref15_Check.l0 k l (i : Int)) (chkFrom (freeAt l i) (l.drop i)) := by
  intro d
  induction d with
  | zero =>
    intro i hi _
    obtain rfl : i = l.length := by omega
    refine Ev.step (fun k => by rw [sidingref15_Check.l0]) ?_
    refine Ev.neg (by omega) (Ev.rt ?_)
    rw [List.drop_length]
    rfl
  | succ d ih =>
    intro i hi hpre
    have h : i < l.length := by omega
    refine Ev.step (fun k => by rw [sidingref15_Check.l0]) ?_
    refine Ev.pos (by omega) (Ev.pos (by omega) ?_)
    rw [rd_h _ _ h, drop_at l i h]
    refine Ev.bd (rvalid_ev _ (ht _ (List.getElem_mem h))) ?_
    unfold chkFrom
    cases hv : validH l[i] with
    | false => exact Ev.neg (by decide) (Ev.rt (by simp))
    | true =>
      obtain ⟨v1, v2, _, _, v3, v4, _⟩ := validH_true hv
      refine Ev.pos rfl ?_
      rw [if_pos rfl]
      have hpre' : ∀ j (hj : j < l.length), j < i + 1 → validH l[j] = true := fun j hj hji => by
        by_cases e : j = i
        · subst e; exact hv
        · exact hpre j hj (by omega)
      have hnext := ih (i + 1) (by omega) hpre'
      have hfree : freeAt l (i + 1) = l[i].f0 + (l[i].f1.length : Int) + 1 := by
        unfold freeAt
        rw [dif_pos ⟨by omega, by simpa using h⟩]
        simp
      rw [hfree] at hnext
      by_cases hi0 : 0 < i
      · obtain ⟨j, rfl⟩ : ∃ j, i = j + 1 := ⟨i - 1, by omega⟩
        have hj : j < l.length := by omega
        have hvj := hpre j hj (by omega)
        obtain ⟨u1, u2, _, _, u3, u4, _⟩ := validH_true hvj
        have hfj : freeAt l (j + 1) = l[j].f0 + (l[j].f1.length : Int) + 1 := by
          unfold freeAt
          rw [dif_pos ⟨by omega, by simpa using hj⟩]
          simp
        rw [hfj]
        have ew : wrap64 (((j + 1 : Nat) : Int) - 1) = (j : Int) := by rw [w64 (by omega)]; omega
        refine Ev.pos (by omega) ?_
        rw [ew]
        refine Ev.pos (by omega) (Ev.pos (by omega) ?_)
        rw [rd_h _ _ hj, w64 (x := l[j].f0 + (l[j].f1.length : Int)) (by omega)]
        by_cases hf : l[j + 1].f0 < l[j].f0 + (l[j].f1.length : Int) + 1
        · exact Ev.pos (by omega) (Ev.rt (by rw [if_pos hf]))
        · refine Ev.neg (by omega) ?_
          rw [if_neg hf, w64 (by omega)]
          exact hnext
      · obtain rfl : i = 0 := by omega
        have hf0 : freeAt l 0 = 0 := by simp [freeAt]
        rw [hf0, if_neg (by omega)]
        refine Ev.neg (by simp) ?_
        rw [w64 (by simp)]
        exact hnext
theorem rcheck_ev (l : List S46) (ht : ∀ h ∈ l, tinyH h) : Ev (fun k => sidingref15_Check.f k l) (checkL l) := by
  unfold sidingref15_Check.f checkL
  by_cases h : 40 < l.length
  · exact Ev.pos (by omega) (Ev.rt (by rw [if_pos h]))
  · refine Ev.neg (by omega) ?_
    rw [if_neg h]
    have := rcheck_loop l (by omega) ht l.length 0 (by omega) (fun j _ hj => absurd hj (Nat.not_lt_zero _))
    simpa [freeAt] using this

theorem hlong_loop (l : List S46) (hl : l.length ≤ 9000000000000000000) (ht : ∀ h ∈ l, h.f1.length ≤ 9000000000000000000 ∧ h.f2.length ≤ 9000000000000000000) : ∀ (d i : Nat), i + d = 61 →
    Ev (fun k => sidingref15_Long.l0 k l (i : Int)) (((l.take 61).drop i).any (fun h => longOf h.f1 || longOf h.f2) || decide (60 < l.length)) := by
  intro d
  induction d with
  | zero =>
    intro i hi
    obtain rfl : i = 61 := by omega
    have e : (l.take 61).drop 61 = [] := List.drop_eq_nil_of_le (by rw [List.length_take]; omega)
    rw [e]
    refine Ev.step (fun k => by rw [sidingref15_Long.l0]) ?_
    by_cases h : 61 < l.length
    · refine Ev.pos (by omega) (Ev.step (fun k => by rw [sidingref15_Long.j1]) (Ev.neg (by decide) (Ev.rt ?_)))
      simp
      omega
    · refine Ev.neg (by omega) (Ev.step (fun k => by rw [sidingref15_Long.j1]) (Ev.neg (by decide) (Ev.rt ?_)))
      simp
      omega
  | succ d ih =>
    intro i hi
    refine Ev.step (fun k => by rw [sidingref15_Long.l0]) ?_
    by_cases h : i < l.length
    · have hlt : i < (l.take 61).length := by rw [List.length_take]; omega
      have e : (l.take 61).drop i = l[i] :: (l.take 61).drop (i + 1) := by rw [drop_at _ i hlt]; simp
      rw [e, List.any_cons]
      obtain ⟨t1, t2⟩ := ht _ (List.getElem_mem h)
      refine Ev.pos (by omega) (Ev.step (fun k => by rw [sidingref15_Long.j1]) (Ev.pos (by simp; omega) (Ev.pos (by omega) (Ev.pos (by omega) ?_))))
      rw [rd_h _ _ h, w64 (by omega)]
      refine Ev.bd (long_ev _ t1) ?_
      cases h1 : longOf l[i].f1 with
      | true => exact Ev.pos rfl (Ev.rt (by simp))
      | false =>
        refine Ev.neg (by decide) (Ev.bd (long_ev _ t2) ?_)
        cases h2 : longOf l[i].f2 with
        | true => exact Ev.pos rfl (Ev.rt (by simp))
        | false =>
          refine Ev.neg (by decide) ?_
          have := ih (i + 1) (by omega)
          simpa using this
    · have e : (l.take 61).drop i = [] := List.drop_eq_nil_of_le (by rw [List.length_take]; omega)
      rw [e]
      refine Ev.neg (by omega) (Ev.step (fun k => by rw [sidingref15_Long.j1]) (Ev.neg (by decide) (Ev.rt ?_)))
      simp
      omega
theorem hlong_ev (l : List S46) (hl : l.length ≤ 9000000000000000000) (ht : ∀ h ∈ l, h.f1.length ≤ 9000000000000000000 ∧ h.f2.length ≤ 9000000000000000000) : Ev (fun k => sidingref15_Long.f k l) (hlong l) := by
  unfold sidingref15_Long.f
  have h := hlong_loop l hl ht 61 0 (by omega)
  simpa [hlong] using h
end Go.Proofs.Ytnajpgimhoighaa.Pr
