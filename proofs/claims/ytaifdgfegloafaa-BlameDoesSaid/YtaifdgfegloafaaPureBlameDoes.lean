/- BlameDoes: Blame, Trace and Count return what the reference returns. Conditions: none beyond the statement's own. -/
import Derived.Test.YtaifdgfegloafaaSBlame4
import Derived.Test.YtaifdgfegloafaaFound
import Derived.Test.YtaifdgfegloafaaF3
namespace Go.Proofs.Ytaifdgfegloafaa.Pure
open Go.RowKit Go.Proofs.YtaifdgfegloafaaW.PrintWords Go.Proofs.YtaifdgfegloafaaW.PrintLast Go.Proofs.YtaifdgfegloafaaW.PrintMore Go.Proofs.Ytaifdgfegloafaa.Pr
set_option linter.unusedVariables false
set_option linter.unusedSimpArgs false

def pairsV (v : List (List ByteArray)) : List (List S58) := (List.range (v.length - 1)).map fun n => (bmN v n).map prOf
theorem pairsV_length (v : List (List ByteArray)) : (pairsV v).length = v.length - 1 := by simp [pairsV]
theorem pairsV_at (v : List (List ByteArray)) (n : Nat) (h : n < v.length - 1) : rd_LT58 (pairsV v) (n : Int) = (bmN v n).map prOf := by
  have hl : n < (pairsV v).length := by rw [pairsV_length]; exact h
  simp only [rd_LT58, Int.toNat_natCast]
  rw [List.getD_eq_getElem?_getD, List.getElem?_eq_getElem hl]
  simp [pairsV]
theorem found_bm {v : List (List ByteArray)} (h : ValidV v) (n : Nat) (hn : n + 1 < v.length) : ref14_Found.f (v.getD n []) (v.getD (n + 1) []) = some ((bmN v n).map prOf) := by
  unfold ref14_Found.f
  rw [if_pos (by rw [decide_eq_true (h.lines n (by omega)).2.2.1, decide_eq_true (h.lines (n + 1) hn).2.2.1]; rfl)]
  rfl
theorem pairs_l0 {v : List (List ByteArray)} (h : ValidV v) : ∀ (d i : Nat), i + d = v.length - 1 → Ev (fun k => sidingref23_Pairs.l0 k v ((pairsV v).take i) (i : Int)) (pairsV v) := by
  have hl := h.len
  have hp := pairsV_length v
  intro d
  induction d with
  | zero =>
    intro i hi
    refine Ev.step (fun k => by rw [sidingref23_Pairs.l0]) ?_
    rw [List.take_of_length_le (by omega), w64 (x := (i : Int) + 1) (by omega)]
    exact Ev.neg (by omega) (Ev.now _)
  | succ d ih =>
    intro i hi
    refine Ev.step (fun k => by rw [sidingref23_Pairs.l0]) ?_
    have e1 : wrap64 ((i : Int) + 1) = ((i + 1 : Nat) : Int) := by rw [w64 (by omega)]; omega
    rw [e1, rdL_getD, rdL_getD]
    refine Ev.pos (by omega) (Ev.pos (by omega) (Ev.pos (by omega) (Ev.pos (by omega) (Ev.bc (found_bm h i (by omega)) (Ev.pos (by rw [List.length_take]; omega) ?_)))))
    have := ih (i + 1) (by omega)
    rw [take_succ_at _ i (by omega)] at this
    have e2 : (pairsV v)[i]'(by omega) = (bmN v i).map prOf := by simp [pairsV]
    rw [e2] at this
    exact this
theorem pairs_ev {v : List (List ByteArray)} (h : ValidV v) : Ev (fun k => sidingref23_Pairs.f k v) (pairsV v) := by
  unfold sidingref23_Pairs.f
  have := pairs_l0 h (v.length - 1) 0 (by omega)
  simpa using this
def partI (m : List (Nat × Nat)) (i : Nat) : Int := match partN m i with
  | some j => (j : Int)
  | none => -1
theorem partI_hit (p : Nat × Nat) (m : List (Nat × Nat)) (i : Nat) (h : p.2 = i) : partI (p :: m) i = (p.1 : Int) := by simp [partI, partN, h]
theorem partI_miss (p : Nat × Nat) (m : List (Nat × Nat)) (i : Nat) (h : ¬ p.2 = i) : partI (p :: m) i = partI m i := by simp [partI, partN, h]
theorem partner_l0 (m : List (Nat × Nat)) (i : Nat) (hm : m.length ≤ 1000000) : ∀ (d j : Nat), j + d = m.length → Ev (fun k => sidingref23_partner.l0 k (m.map prOf) (i : Int) (j : Int)) (partI (m.drop j) i) := by
  intro d
  induction d with
  | zero =>
    intro j hj
    refine Ev.step (fun k => by rw [sidingref23_partner.l0]) ?_
    rw [List.length_map, List.drop_eq_nil_of_le (by omega)]
    exact Ev.neg (by omega) (Ev.now _)
  | succ d ih =>
    intro j hj
    have hlt : j < m.length := by omega
    refine Ev.step (fun k => by rw [sidingref23_partner.l0]) ?_
    rw [List.length_map, rdT_pair m j hlt, drop_at m j hlt]
    have f0 : (prOf m[j]).f0 = ((m[j].1 : Nat) : Int) := rfl
    have f1 : (prOf m[j]).f1 = ((m[j].2 : Nat) : Int) := rfl
    rw [f0, f1]
    refine Ev.pos (by omega) (Ev.pos (by omega) ?_)
    by_cases c : m[j].2 = i
    · exact Ev.pos (by omega) (Ev.rt (partI_hit _ _ i c).symm)
    · rw [w64 (x := (j : Int) + 1) (by omega)]
      exact Ev.neg (by omega) (Ev.eq (partI_miss _ _ i c).symm (ih (j + 1) (by omega)))
theorem partner_ev (m : List (Nat × Nat)) (i : Nat) (hm : m.length ≤ 1000000) : Ev (fun k => sidingref23_partner.f k (m.map prOf) (i : Int)) (partI m i) := by
  unfold sidingref23_partner.f
  have := partner_l0 m i hm m.length 0 (by omega)
  simpa using this
theorem back_l0 {v : List (List ByteArray)} (h : ValidV v) : ∀ (n i : Nat) (acc : List Int), n ≤ v.length - 1 → acc.length ≤ 100 - n → Ev (fun k => sidingref23_back.l0 k (pairsV v) (i : Int) acc ((n : Int) - 1)) (acc ++ ((trN v n i).map fun x : Nat => (x : Int)).tail) := by
  have hl := h.len
  intro n
  induction n with
  | zero =>
    intro i acc _ _
    refine Ev.step (fun k => by rw [sidingref23_back.l0]) ?_
    refine Ev.neg (by omega) (Ev.rt ?_)
    simp [trN]
  | succ n ih =>
    intro i acc hn ha
    refine Ev.step (fun k => by rw [sidingref23_back.l0]) ?_
    have e1 : ((n + 1 : Nat) : Int) - 1 = (n : Int) := by omega
    rw [e1, pairsV_at v n (by omega), pairsV_length]
    refine Ev.pos (by omega) (Ev.pos (by omega) (Ev.pos (by omega) (Ev.bd (partner_ev (bmN v n) i (by have := bmN_length h n (by omega); omega)) ?_)))
    cases e : partN (bmN v n) i with
    | none =>
      have e2 : partI (bmN v n) i = -1 := by simp [partI, e]
      rw [e2]
      refine Ev.pos (by omega) (Ev.rt ?_)
      simp [trN, e]
    | some j =>
      have e2 : partI (bmN v n) i = (j : Int) := by simp [partI, e]
      rw [e2, w64 (x := (n : Int) - 1) (by omega)]
      refine Ev.neg (by omega) (Ev.pos (by omega) (Ev.eq ?_ (ih j (acc ++ [(j : Int)]) (by omega) (by rw [List.length_append, List.length_singleton]; omega))))
      have e3 : trN v (n + 1) i = i :: trN v n j := by simp [trN, e]
      rw [e3, List.append_assoc]
      congr 1
      simp only [List.map_cons, List.tail_cons]
      have e4 : trN v n j = j :: (trN v n j).tail := by cases n <;> simp [trN]
      rw [e4]
      rfl
theorem back_ev {v : List (List ByteArray)} (h : ValidV v) (i : Nat) : Ev (fun k => sidingref23_back.f k (pairsV v) (i : Int)) ((trN v (v.length - 1) i).map fun x : Nat => (x : Int)) := by
  have hl := h.len
  unfold sidingref23_back.f
  rw [pairsV_length, w64 (by omega)]
  refine Ev.eq ?_ (back_l0 h (v.length - 1) i [(i : Int)] (Nat.le_refl _) (by simp; omega))
  have e4 : trN v (v.length - 1) i = i :: (trN v (v.length - 1) i).tail := by cases v.length - 1 <;> simp [trN]
  rw [e4]
  rfl
theorem tr_org {v : List (List ByteArray)} (h : ValidV v) (i : Nat) : ∀ t : List Int, t = (trN v (v.length - 1) i).map (fun x : Nat => (x : Int)) → 0 < t.length ∧ t.length ≤ v.length ∧ (⟨(v.length : Int) - (t.length : Int), rd t ((t.length - 1 : Nat) : Int)⟩ : S43) = orgS v (v.length - 1) i := by
  intro t ht
  have hl := h.len
  obtain ⟨h1, h2⟩ := trN_org v (v.length - 1) i
  have hne : 0 < (trN v (v.length - 1) i).length := List.length_pos_iff.2 (trN_ne v _ i)
  have hlen : t.length = (trN v (v.length - 1) i).length := by rw [ht, List.length_map]
  refine ⟨by omega, by omega, ?_⟩
  unfold orgS
  rw [h2, rd_at t (t.length - 1) (by omega)]
  have e : t[t.length - 1]'(by omega) = (((trN v (v.length - 1) i).getLast (trN_ne v _ i) : Nat) : Int) := by
    rw [List.getLast_eq_getElem]
    simp only [ht, List.getElem_map, List.length_map]
  rw [e, hlen]
  congr 1
  omega
theorem rblame_l0 {v : List (List ByteArray)} (h : ValidV v) : ∀ (d i : Nat), i + d = (v.getD (v.length - 1) []).length → Ev (fun k => sidingref23_Blame.l0 k v (pairsV v) ((rowO v (v.length - 1)).take i) (i : Int)) (rowO v (v.length - 1), (0 : Int)) := by
  have hl := h.len
  have hr := (h.lines (v.length - 1) (by omega)).2.2.1
  have hrl := rowO_length v (v.length - 1)
  have e1 : wrap64 ((v.length : Int) - 1) = ((v.length - 1 : Nat) : Int) := by rw [w64 (by omega)]; omega
  intro d
  induction d with
  | zero =>
    intro i hi
    refine Ev.step (fun k => by rw [sidingref23_Blame.l0]) ?_
    rw [e1, rdL_getD, List.take_of_length_le (by omega)]
    exact Ev.pos (by omega) (Ev.pos (by omega) (Ev.neg (by omega) (Ev.now _)))
  | succ d ih =>
    intro i hi
    refine Ev.step (fun k => by rw [sidingref23_Blame.l0]) ?_
    rw [e1, rdL_getD]
    refine Ev.pos (by omega) (Ev.pos (by omega) (Ev.pos (by omega) (Ev.bd (back_ev h i) ?_)))
    obtain ⟨t, ht⟩ : ∃ t, t = (trN v (v.length - 1) i).map (fun x : Nat => (x : Int)) := ⟨_, rfl⟩
    rw [← ht]
    obtain ⟨g1, g2, g3⟩ := tr_org h i t ht
    have e2 : wrap64 ((t.length : Int) - 1) = ((t.length - 1 : Nat) : Int) := by rw [w64 (by omega)]; omega
    rw [e2, w64 (x := (v.length : Int) - (t.length : Int)) (by omega), w64 (x := (i : Int) + 1) (by omega), g3]
    refine Ev.pos (by omega) (Ev.pos (by omega) (Ev.pos (by rw [List.length_take]; omega) ?_))
    have := ih (i + 1) (by omega)
    rw [take_succ_at _ i (by omega), rowO_get _ _ i (by omega)] at this
    exact this
theorem rblame_ev (v : List (List ByteArray)) (hv : ∀ x ∈ v, tiny x) (hl : v.length ≤ 1000000) : Ev (fun k => sidingref23_Blame.f k v) (if vErr v = 0 then (rowO v (v.length - 1), (0 : Int)) else (([] : List S43), vErr v)) := by
  unfold sidingref23_Blame.f
  refine Ev.bd (check23_ev v hv hl) ?_
  by_cases h : vErr v = 0
  · rw [if_pos h]
    have hV : ValidV v := ⟨smallV_tiny hv, h⟩
    refine Ev.pos h (Ev.bd (pairs_ev hV) ?_)
    have := rblame_l0 hV _ 0 (Nat.zero_add _)
    simpa using this
  · rw [if_neg h]
    exact Ev.neg h (Ev.bd (check23_ev v hv hl) (Ev.now _))
theorem rtrace_l0 (t : List Int) (ht : t.length ≤ 100) : ∀ (n : Nat) (acc : List Int), n ≤ t.length → acc.length + n ≤ 100 → Ev (fun k => sidingref23_Trace.l0 k t acc ((n : Int) - 1)) (acc ++ (t.take n).reverse, (0 : Int)) := by
  intro n
  induction n with
  | zero =>
    intro acc _ _
    refine Ev.step (fun k => by rw [sidingref23_Trace.l0]) ?_
    refine Ev.neg (by omega) (Ev.rt ?_)
    simp
  | succ n ih =>
    intro acc hn ha
    refine Ev.step (fun k => by rw [sidingref23_Trace.l0]) ?_
    have e1 : ((n + 1 : Nat) : Int) - 1 = (n : Int) := by omega
    rw [e1, rd_at t n (by omega), w64 (x := (n : Int) - 1) (by omega)]
    refine Ev.pos (by omega) (Ev.pos (by omega) (Ev.pos (by omega) (Ev.pos (by omega) (Ev.eq ?_ (ih (acc ++ [t[n]]) (by omega) (by rw [List.length_append, List.length_singleton]; omega))))))
    rw [take_succ_at t n (by omega), List.reverse_append, List.append_assoc]
    rfl
theorem rtrace_ev (v : List (List ByteArray)) (a : Int) (ha : -9223372036854775808 ≤ a ∧ a ≤ 9223372036854775807) (hv : ∀ x ∈ v, tiny x) (hl : v.length ≤ 1000000) : Ev (fun k => sidingref23_Trace.f k v a) (if vErr v = 0 then (if a < 0 ∨ (((v.getD (v.length - 1) []).length : Nat) : Int) ≤ a then ([], 2) else ((traceL v (v.length - 1) a).reverse, 0)) else ([], vErr v)) := by
  unfold sidingref23_Trace.f
  refine Ev.bd (check23_ev v hv hl) ?_
  by_cases h : vErr v = 0
  · rw [if_pos h]
    have hV : ValidV v := ⟨smallV_tiny hv, h⟩
    have hlen := hV.len
    refine Ev.pos h ?_
    by_cases h0 : a < 0
    · rw [if_pos (.inl h0)]
      refine Ev.pos h0 (Ev.step (fun k => by rw [sidingref23_Trace.j0]) ?_)
      exact Ev.pos rfl (Ev.now _)
    · have e1 : wrap64 ((v.length : Int) - 1) = ((v.length - 1 : Nat) : Int) := by rw [w64 (by omega)]; omega
      rw [e1, rdL_getD]
      refine Ev.neg h0 (Ev.pos (by omega) (Ev.pos (by omega) ?_))
      by_cases h1 : (((v.getD (v.length - 1) []).length : Nat) : Int) ≤ a
      · rw [if_pos (.inr h1), decide_eq_true (show a ≥ (((v.getD (v.length - 1) []).length : Nat) : Int) from h1)]
        refine Ev.step (fun k => by rw [sidingref23_Trace.j0]) ?_
        exact Ev.pos rfl (Ev.now _)
      · rw [if_neg (by omega), decide_eq_false (show ¬ a ≥ (((v.getD (v.length - 1) []).length : Nat) : Int) from h1)]
        refine Ev.step (fun k => by rw [sidingref23_Trace.j0]) ?_
        obtain ⟨i, rfl⟩ : ∃ i : Nat, a = (i : Int) := ⟨a.toNat, by omega⟩
        refine Ev.neg (by decide) (Ev.bd (pairs_ev hV) (Ev.bd (back_ev hV i) ?_))
        rw [traceL_trN]
        obtain ⟨t, ht⟩ : ∃ t, t = (trN v (v.length - 1) i).map (fun x : Nat => (x : Int)) := ⟨_, rfl⟩
        rw [← ht]
        obtain ⟨g1, g2, g3⟩ := tr_org hV i t ht
        rw [w64 (x := (t.length : Int) - 1) (by omega)]
        have := rtrace_l0 t (by omega) t.length [] (Nat.le_refl _) (by simp; omega)
        rw [List.take_length, List.nil_append] at this
        exact this
  · rw [if_neg h]
    exact Ev.neg h (Ev.bd (check23_ev v hv hl) (Ev.now _))
theorem rcount_l0 {v : List (List ByteArray)} (h : ValidV v) : ∀ (d j : Nat), j + d = (rowO v (v.length - 1)).length → Ev (fun k => sidingref23_Count.l0 k (rowO v (v.length - 1)) (hist v.length ((rowO v (v.length - 1)).take j)) (j : Int)) (hist v.length (rowO v (v.length - 1)), (0 : Int)) := by
  have hl := h.len
  have hr : (rowO v (v.length - 1)).length ≤ 60 := by rw [rowO_length]; exact (h.lines (v.length - 1) (by omega)).2.2.1
  intro d
  induction d with
  | zero =>
    intro j hj
    refine Ev.step (fun k => by rw [sidingref23_Count.l0]) ?_
    rw [List.take_of_length_le (by omega)]
    exact Ev.neg (by omega) (Ev.now _)
  | succ d ih =>
    intro j hj
    have hlt : j < (rowO v (v.length - 1)).length := by omega
    refine Ev.step (fun k => by rw [sidingref23_Count.l0]) ?_
    rw [rdO_get _ j hlt, rowO_get _ _ j hlt, hist_length]
    have e : (orgS v (v.length - 1) j).f0 = (((orgN v (v.length - 1) j).1 : Nat) : Int) := rfl
    have hn : (orgN v (v.length - 1) j).1 < v.length := by have := orgN_le v (v.length - 1) j; omega
    rw [e]
    refine Ev.pos (by omega) (Ev.pos (by omega) (Ev.pos (by omega) (Ev.pos (by omega) ?_)))
    have hf : (((rowO v (v.length - 1)).take j).filter fun o => decide (o.f0 = (((orgN v (v.length - 1) j).1 : Nat) : Int))).length ≤ 60 := Nat.le_trans (List.length_filter_le _ _) (by rw [List.length_take]; omega)
    rw [hist_at _ _ _ hn, w64 (x := (j : Int) + 1) (by omega), w64 (by omega), Int.toNat_natCast, hist_step v.length _ (orgS v (v.length - 1) j) _ hn e]
    have := ih (j + 1) (by omega)
    rw [take_succ_at _ j hlt, rowO_get _ _ j hlt] at this
    exact this
theorem rcount_ev (v : List (List ByteArray)) (hv : ∀ x ∈ v, tiny x) (hl : v.length ≤ 1000000) : Ev (fun k => sidingref23_Count.f k v) (if vErr v = 0 then (hist v.length (rowO v (v.length - 1)), (0 : Int)) else (([] : List Int), vErr v)) := by
  unfold sidingref23_Count.f
  refine Ev.bd (rblame_ev v hv hl) ?_
  by_cases h : vErr v = 0
  · rw [if_pos h, if_pos h]
    have hV : ValidV v := ⟨smallV_tiny hv, h⟩
    have := hV.len
    refine Ev.pos rfl (Ev.pos (by omega) (Ev.pos (by omega) ?_))
    have h2 := rcount_l0 hV (rowO v (v.length - 1)).length 0 (by omega)
    rw [List.take_zero, hist_nil] at h2
    rw [Int.toNat_natCast]
    exact h2
  · rw [if_neg h, if_neg h]
    exact Ev.neg h (Ev.now _)
theorem BlameDoes : sidinglaw23_BlameDoes.Pure := by
  intro v a hv hwf
  apply Ev.rounds (g := fun k => sidinglaw23_BlameDoes.f k v a)
  unfold sidinglaw23_BlameDoes.f
  have hlv : v.length ≤ 9000000000000000000 := by omega
  have hlx : ∀ x ∈ v, x.length ≤ 9000000000000000000 := fun x hx => by have := (hv.2 x hx).1; omega
  refine Ev.bd (longV_ev v hlv hlx) ?_
  by_cases h : longV v = true
  · exact Ev.pos h (Ev.now _)
  · obtain ⟨h1, h2⟩ := longV_tiny (Bool.eq_false_iff.2 h)
    have hs := smallV_tiny h2
    have hl6 : v.length ≤ 1000000 := by omega
    refine Ev.neg h (Ev.bd (blame_ev v hs hlv) (Ev.bd (rblame_ev v h2 hl6) (Ev.bc (trace_val v a hs hlv) (Ev.bd (rtrace_ev v a (wf64 hwf) h2 hl6) (Ev.bd (count_ev v hs hlv) (Ev.bd (rcount_ev v h2 hl6) ?_))))))
    have hr : ∀ x : List S43 × Int, x = (if vErr v = 0 then (rowO v (v.length - 1), (0 : Int)) else (([] : List S43), vErr v)) → x.1.length ≤ 9000000000000000000 := by
      intro x hx
      rw [hx]
      split
      · rename_i h0
        have hV : ValidV v := ⟨hs, h0⟩
        have := (hV.lines (v.length - 1) (by have := hV.len; omega)).2.2.1
        show (rowO v (v.length - 1)).length ≤ _
        rw [rowO_length]
        omega
      · simp
    have ht : ∀ x : List Int × Int, x = (if vErr v = 0 then (if a < 0 ∨ (((v.getD (v.length - 1) []).length : Nat) : Int) ≤ a then ([], 2) else ((traceL v (v.length - 1) a).reverse, 0)) else ([], vErr v)) → x.1.length ≤ 9000000000000000000 := by
      intro x hx
      rw [hx]
      split
      · split
        · simp
        · rename_i h0 h3
          obtain ⟨i, rfl⟩ : ∃ i : Nat, a = (i : Int) := ⟨a.toNat, by omega⟩
          show (traceL v (v.length - 1) (i : Int)).reverse.length ≤ _
          rw [traceL_trN, List.length_reverse, List.length_map]
          have := (trN_org v (v.length - 1) i).1
          omega
      · simp
    have hc : ∀ x : List Int × Int, x = (if vErr v = 0 then (hist v.length (rowO v (v.length - 1)), (0 : Int)) else (([] : List Int), vErr v)) → x.1.length ≤ 9000000000000000000 := by
      intro x hx
      rw [hx]
      split
      · show (hist v.length (rowO v (v.length - 1))).length ≤ _
        rw [hist_length]
        omega
      · simp
    refine Ev.bd (same23_ev _ (hr _ rfl)) (Ev.pos rfl (Ev.pos rfl (Ev.bd (ints_ev _ (ht _ rfl)) (Ev.pos rfl (Ev.pos rfl (Ev.bd (ints_ev _ (hc _ rfl)) (Ev.pos rfl (Ev.rt ?_))))))))
    simp
end Go.Proofs.Ytaifdgfegloafaa.Pure
