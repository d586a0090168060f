/- BlameTraces: a trace begins with the origin and ends with the line, which is the same in each version. Conditions: none beyond the statement's own. -/
import Derived.Test.YtaifdgfegloafaaSBlame4
import Derived.Test.YtaifdgfegloafaaF6
namespace Go.Proofs.Ytaifdgfegloafaa.Pure
open Go.RowKit Go.Proofs.YtaifdgfegloafaaW.PrintWords Go.Proofs.YtaifdgfegloafaaW.PrintLast Go.Proofs.YtaifdgfegloafaaW.PrintMore Go.Proofs.Ytaifdgfegloafaa.Pr
set_option linter.unusedVariables false
set_option linter.unusedSimpArgs false

theorem trN_head (v : List (List ByteArray)) (n i : Nat) : (trN v n i)[0]? = some i := by
  cases n with
  | zero => rfl
  | succ n => cases e : partN (bmN v n) i <;> simp [trN, e]
theorem trN_none (v : List (List ByteArray)) (n i : Nat) (e : partN (bmN v n) i = none) : trN v (n + 1) i = [i] := by simp [trN, e]
theorem trN_some (v : List (List ByteArray)) (n i j : Nat) (e : partN (bmN v n) i = some j) : trN v (n + 1) i = i :: trN v n j := by simp [trN, e]
theorem trN_same (v : List (List ByteArray)) : ∀ (n i m j : Nat), (trN v n i)[m]? = some j → (v.getD (n - m) [])[j]? = (v.getD n [])[i]? ∧ m ≤ n
  | n, i, 0, j, h => by
    rw [trN_head] at h
    injection h with h
    subst h
    exact ⟨rfl, Nat.zero_le _⟩
  | 0, i, m + 1, j, h => by simp [trN] at h
  | n + 1, i, m + 1, j, h => by
    cases e : partN (bmN v n) i with
    | none =>
      rw [trN_none v n i e] at h
      simp at h
    | some y =>
      rw [trN_some v n i y e, List.getElem?_cons_succ] at h
      obtain ⟨h1, h2⟩ := trN_same v n y m j h
      refine ⟨?_, by omega⟩
      rw [show n + 1 - (m + 1) = n - m by omega, h1]
      exact (bmN_match v n).same (y, i) (partN_mem e)
theorem partN_mono (v : List (List ByteArray)) (n i k x y : Nat) (h : i < k) (e : partN (bmN v n) i = some x) (e2 : partN (bmN v n) k = some y) : x < y := by
  obtain ⟨p, hp, hpe⟩ := List.getElem_of_mem (partN_mem e)
  obtain ⟨q, hq, hqe⟩ := List.getElem_of_mem (partN_mem e2)
  have hpw := List.pairwise_iff_getElem.1 (bmN_match v n).pairs
  rcases Nat.lt_trichotomy p q with c | c | c
  · have := hpw p q hp hq c
    rw [hpe, hqe] at this
    exact this.1
  · subst c
    rw [hpe] at hqe
    simp at hqe
    omega
  · have := hpw q p hq hp c
    rw [hpe, hqe] at this
    have := this.2
    simp only at this
    omega
theorem trN_mono (v : List (List ByteArray)) : ∀ (n i k m x y : Nat), i < k → (trN v n i)[m]? = some x → (trN v n k)[m]? = some y → x < y
  | n, i, k, 0, x, y, h, h1, h2 => by
    rw [trN_head] at h1 h2
    injection h1 with h1
    injection h2 with h2
    omega
  | 0, i, k, m + 1, x, y, h, h1, h2 => by simp [trN] at h1
  | n + 1, i, k, m + 1, x, y, h, h1, h2 => by
    cases e : partN (bmN v n) i with
    | none =>
      rw [trN_none v n i e] at h1
      simp at h1
    | some a =>
      cases e2 : partN (bmN v n) k with
      | none =>
        rw [trN_none v n k e2] at h2
        simp at h2
      | some b =>
        rw [trN_some v n i a e, List.getElem?_cons_succ] at h1
        rw [trN_some v n k b e2, List.getElem?_cons_succ] at h2
        exact trN_mono v n a b m x y (partN_mono v n i k a b h e e2) h1 h2
/-- A trace the other way about, of integers. -/
def rvN (t : List Nat) : List Int := (t.map fun x : Nat => (x : Int)).reverse
theorem rvN_length (t : List Nat) : (rvN t).length = t.length := by simp [rvN]
theorem rvN_at (t : List Nat) (m : Nat) (h : m < t.length) : ∃ x : Nat, t[t.length - 1 - m]? = some x ∧ rd (rvN t) (m : Int) = (x : Int) := by
  refine ⟨t[t.length - 1 - m]'(by omega), List.getElem?_eq_getElem _, ?_⟩
  rw [rd_at _ m (by rw [rvN_length]; exact h)]
  unfold rvN
  rw [List.getElem_reverse, List.getElem_map]
  simp
theorem traces_l1 (ta tb : List Nat) (ha : ta.length ≤ 100) (hb : tb.length ≤ 100) (H : ∀ m x y : Nat, ta[m]? = some x → tb[m]? = some y → x < y) : ∀ (d c : Nat), c + d = 101 → 1 ≤ c → Ev (fun k => sidinglaw23_BlameTraces.l1 k true (rvN ta) (rvN tb) (c : Int)) true := by
  intro d
  induction d with
  | zero =>
    intro c hc h1
    refine Ev.step (fun k => by rw [sidinglaw23_BlameTraces.l1]) ?_
    rw [rvN_length]
    refine Ev.neg (by omega) (Ev.step (fun k => by rw [sidinglaw23_BlameTraces.j5]) ?_)
    exact Ev.neg (by decide) (Ev.now _)
  | succ d ih =>
    intro c hc h1
    refine Ev.step (fun k => by rw [sidinglaw23_BlameTraces.l1]) ?_
    rw [rvN_length, rvN_length]
    by_cases c1 : c ≤ ta.length
    · refine Ev.pos (by omega) ?_
      by_cases c2 : c ≤ tb.length
      · rw [decide_eq_true (show (c : Int) ≤ (tb.length : Int) by omega)]
        refine Ev.step (fun k => by rw [sidinglaw23_BlameTraces.j5]) ?_
        rw [rvN_length, rvN_length, show wrap64 ((ta.length : Int) - (c : Int)) = ((ta.length - c : Nat) : Int) by rw [w64 (by omega)]; omega, show wrap64 ((tb.length : Int) - (c : Int)) = ((tb.length - c : Nat) : Int) by rw [w64 (by omega)]; omega, w64 (x := (c : Int) + 1) (by omega)]
        obtain ⟨x, hx, ex⟩ := rvN_at ta (ta.length - c) (by omega)
        obtain ⟨y, hy, ey⟩ := rvN_at tb (tb.length - c) (by omega)
        rw [show ta.length - 1 - (ta.length - c) = c - 1 by omega] at hx
        rw [show tb.length - 1 - (tb.length - c) = c - 1 by omega] at hy
        have := H _ _ _ hx hy
        rw [ex, ey]
        exact Ev.pos rfl (Ev.pos (by omega) (Ev.pos (by omega) (Ev.pos (by omega) (Ev.pos (by omega) (Ev.neg (by omega) (ih (c + 1) (by omega) (by omega)))))))
      · rw [decide_eq_false (show ¬ (c : Int) ≤ (tb.length : Int) by omega)]
        refine Ev.step (fun k => by rw [sidinglaw23_BlameTraces.j5]) ?_
        exact Ev.neg (by decide) (Ev.now _)
    · refine Ev.neg (by omega) (Ev.step (fun k => by rw [sidinglaw23_BlameTraces.j5]) ?_)
      exact Ev.neg (by decide) (Ev.now _)
theorem traces_l0 {v : List (List ByteArray)} (h : ValidV v) (i k2 : Nat) (hi : i < (v.getD (v.length - 1) []).length) (hk : i < k2) : ∀ (d n : Nat), n + d = (trN v (v.length - 1) i).length → Ev (fun k => sidinglaw23_BlameTraces.l0 k v (i : Int) true (rvN (trN v (v.length - 1) i)) (rvN (trN v (v.length - 1) k2)) (n : Int)) true := by
  have hl := h.len
  have la := (trN_org v (v.length - 1) i).1
  have lb := (trN_org v (v.length - 1) k2).1
  have hg := (h.lines (v.length - 1) (by omega)).2.2.1
  have e1 : wrap64 ((v.length : Int) - 1) = ((v.length - 1 : Nat) : Int) := by rw [w64 (by omega)]; omega
  intro d
  induction d with
  | zero =>
    intro n hn
    refine Ev.step (fun k => by rw [sidinglaw23_BlameTraces.l0]) ?_
    rw [rvN_length]
    refine Ev.neg (by omega) ?_
    exact traces_l1 _ _ (by omega) (by omega) (fun m x y hx hy => trN_mono v _ i k2 m x y hk hx hy) 100 1 (by omega) (by omega)
  | succ d ih =>
    intro n hn
    have hlt : n < (trN v (v.length - 1) i).length := by omega
    refine Ev.step (fun k => by rw [sidinglaw23_BlameTraces.l0]) ?_
    have e2 : wrap64 ((wrap64 ((v.length : Int) - ((rvN (trN v (v.length - 1) i)).length : Int))) + (n : Int)) = ((v.length - (trN v (v.length - 1) i).length + n : Nat) : Int) := by
      rw [rvN_length, w64 (x := (v.length : Int) - _) (by omega), w64 (by omega)]
      omega
    obtain ⟨x, hx, ex⟩ := rvN_at (trN v (v.length - 1) i) n hlt
    obtain ⟨hs, _⟩ := trN_same v _ _ _ _ hx
    rw [show v.length - 1 - ((trN v (v.length - 1) i).length - 1 - n) = v.length - (trN v (v.length - 1) i).length + n by omega, List.getElem?_eq_getElem hi] at hs
    have hb : x < (v.getD (v.length - (trN v (v.length - 1) i).length + n) []).length := (List.getElem?_eq_some_iff.1 hs).1
    have hg2 := (h.lines (v.length - (trN v (v.length - 1) i).length + n) (by omega)).2.2.1
    rw [e2, e1, ex, rdL_getD, rdL_getD, rdOf_at _ _ _ hb, rdOf_at _ _ _ hi, (List.getElem?_eq_some_iff.1 hs).2, w64 (x := (n : Int) + 1) (by omega), rvN_length]
    exact Ev.pos (by omega) (Ev.pos (by omega) (Ev.pos (by omega) (Ev.pos (by omega) (Ev.neg (by omega) (Ev.neg (by omega) (Ev.pos (by omega) (Ev.pos (by omega) (Ev.pos (by omega) (Ev.pos (by omega) (Ev.pos (by omega) (Ev.pos (by omega) (Ev.pos rfl (ih (n + 1) (by omega))))))))))))))
theorem BlameTraces : sidinglaw23_BlameTraces.Pure := by
  intro v a1 a2 hv hw1 hw2
  apply Ev.rounds (g := fun k => sidinglaw23_BlameTraces.f k v a1 a2)
  unfold sidinglaw23_BlameTraces.f
  have hlv : v.length ≤ 9000000000000000000 := by omega
  have hlx : ∀ x ∈ v, x.length ≤ 9000000000000000000 := fun x hx => by have := (hv.2 x hx).1; omega
  have out : ∀ (x : Bool), x = true → Ev (fun k => sidinglaw23_BlameTraces.j0 k v a1 a2 true x) true := by
    intro x hx
    subst hx
    refine Ev.step (fun k => by rw [sidinglaw23_BlameTraces.j0]) ?_
    exact Ev.pos rfl (Ev.now _)
  refine Ev.bd alive23_ev (Ev.bd (fitV_ev v hlv hlx) ?_)
  by_cases h1 : fitV v = true
  · refine Ev.pos h1 ?_
    have h := fitV_valid h1
    have hl := h.len
    have e1 : wrap64 ((v.length : Int) - 1) = ((v.length - 1 : Nat) : Int) := by rw [w64 (by omega)]; omega
    have hg := (h.lines (v.length - 1) (by omega)).2.2.1
    rw [e1, rdL_getD]
    by_cases c1 : a1 < 0
    · exact Ev.pos c1 (out _ rfl)
    · refine Ev.neg c1 ?_
      by_cases c2 : a2 ≤ a1
      · exact Ev.pos c2 (out _ rfl)
      · refine Ev.neg c2 (Ev.pos (by omega) (Ev.pos (by omega) ?_))
        by_cases c3 : a2 ≥ (((v.getD (v.length - 1) []).length : Nat) : Int)
        · exact Ev.pos c3 (out _ rfl)
        · refine Ev.neg c3 ?_
          obtain ⟨i, rfl⟩ : ∃ i : Nat, a1 = (i : Int) := ⟨a1.toNat, by omega⟩
          obtain ⟨k2, rfl⟩ : ∃ i : Nat, a2 = (i : Int) := ⟨a2.toNat, by omega⟩
          refine Ev.step (fun k => by rw [sidinglaw23_BlameTraces.j0]) ?_
          have b := blame_ev v h.sm hlv
          rw [if_pos h.ok] at b
          have t1 := trace_val v (i : Int) h.sm hlv
          rw [if_pos h.ok, if_neg (by omega), traceL_trN] at t1
          have t2 := trace_val v (k2 : Int) h.sm hlv
          rw [if_pos h.ok, if_neg (by omega), traceL_trN] at t2
          have la := (trN_org v (v.length - 1) i)
          have lb := (trN_org v (v.length - 1) k2)
          have na := List.length_pos_iff.2 (trN_ne v (v.length - 1) i)
          have nb := List.length_pos_iff.2 (trN_ne v (v.length - 1) k2)
          have ra := rvN_length (trN v (v.length - 1) i)
          have rb := rvN_length (trN v (v.length - 1) k2)
          have ro := rowO_length v (v.length - 1)
          refine Ev.neg (by decide) (Ev.bd b (Ev.bc t1 (Ev.bc t2 ?_)))
          show Ev (fun k => if (0 : Int) = 0 then _ else _) true
          rw [e1, rdL_getD]
          refine Ev.pos rfl (Ev.pos rfl (Ev.pos rfl (Ev.pos (by omega) (Ev.pos (by omega) (Ev.pos (by rw [rowO_length]) ?_)))))
          change Ev (fun k => if ((rvN (trN v (v.length - 1) i)).length : Int) = 0 then _ else if ((rvN (trN v (v.length - 1) k2)).length : Int) = 0 then _ else if ((rvN (trN v (v.length - 1) i)).length : Int) > (v.length : Int) then _ else sidinglaw23_BlameTraces.j1 k v (i : Int) (k2 : Int) true (rowO v (v.length - 1)) (rvN (trN v (v.length - 1) i)) (rvN (trN v (v.length - 1) k2)) (decide (((rvN (trN v (v.length - 1) k2)).length : Int) > (v.length : Int)))) true
          rw [ra, rb, decide_eq_false (show ¬ (((trN v (v.length - 1) k2).length : Int) > (v.length : Int)) by omega)]
          refine Ev.neg (by omega) (Ev.neg (by omega) (Ev.neg (by omega) (Ev.step (fun k => by rw [sidinglaw23_BlameTraces.j1]) ?_)))
          have ends : ∀ j : Nat, j < (v.getD (v.length - 1) []).length → 0 < (trN v (v.length - 1) j).length ∧ (trN v (v.length - 1) j).length ≤ v.length ∧ (!((rd_T43 (rowO v (v.length - 1)) (j : Int)).f0 == wrap64 ((v.length : Int) - ((rvN (trN v (v.length - 1) j)).length : Int))) || (!((rd_T43 (rowO v (v.length - 1)) (j : Int)).f1 == rd (rvN (trN v (v.length - 1) j)) 0))) = false ∧ rd (rvN (trN v (v.length - 1) j)) (wrap64 (((rvN (trN v (v.length - 1) j)).length : Int) - 1)) = (j : Int) := by
            intro j hj
            have lj := trN_org v (v.length - 1) j
            have nj := List.length_pos_iff.2 (trN_ne v (v.length - 1) j)
            refine ⟨nj, by omega, ?_, ?_⟩
            · rw [rowO_at v (v.length - 1) j hj, rvN_length, w64 (by omega)]
              unfold orgS
              rw [lj.2]
              obtain ⟨x, hx, ex⟩ := rvN_at (trN v (v.length - 1) j) 0 nj
              rw [show ((0 : Nat) : Int) = (0 : Int) from rfl] at ex
              rw [ex]
              have hgl : (trN v (v.length - 1) j).getLast (trN_ne v (v.length - 1) j) = x := by
                rw [List.getLast_eq_getElem]
                exact (List.getElem?_eq_some_iff.1 hx).2
              rw [hgl]
              simp only [beq_self_eq_true, Bool.not_true, Bool.or_false, Bool.not_eq_false']
              rw [beq_iff_eq]
              omega
            · rw [rvN_length, w64 (by omega)]
              obtain ⟨x, hx, ex⟩ := rvN_at (trN v (v.length - 1) j) ((trN v (v.length - 1) j).length - 1) (by omega)
              rw [show (((trN v (v.length - 1) j).length : Int) - 1) = (((trN v (v.length - 1) j).length - 1 : Nat) : Int) by omega, ex]
              rw [Nat.sub_self, trN_head] at hx
              injection hx with hx
              rw [hx]
          obtain ⟨p1, p2, p3, p4⟩ := ends i (by omega)
          obtain ⟨q1, q2, q3, q4⟩ := ends k2 (by omega)
          rw [p3, q3, p4, q4, rvN_length, rvN_length, w64 (x := ((trN v (v.length - 1) i).length : Int) - 1) (by omega), w64 (x := ((trN v (v.length - 1) k2).length : Int) - 1) (by omega)]
          refine Ev.neg (by decide) (Ev.pos (by omega) (Ev.pos (by omega) (Ev.pos (by omega) (Ev.neg (by decide) (Ev.pos (by omega) (Ev.pos (by omega) (Ev.pos (by omega) (Ev.neg (by decide) (Ev.pos (by omega) (Ev.pos (by omega) (Ev.pos rfl (Ev.pos (by omega) (Ev.pos (by omega) ?_)))))))))))))
          rw [show ((k2 : Int) != (k2 : Int)) = false by simp]
          refine Ev.step (fun k => by rw [sidinglaw23_BlameTraces.j2]) (Ev.neg (by decide) ?_)
          exact traces_l0 h i k2 (by omega) (by omega) _ 0 (Nat.zero_add _)
  · exact Ev.neg h1 (out _ rfl)
end Go.Proofs.Ytaifdgfegloafaa.Pure
