/- BlameMore: one more version at the end (the last one again) changes no origin; one more at the front (the first one again) moves every later origin by one. Conditions: none beyond the statement's own. -/
import Derived.Test.YtaifdgfegloafaaSBlame4
import Derived.Test.YtaifdgfegloafaaF7
namespace Go.Proofs.Ytaifdgfegloafaa.Pure
open Go.RowKit Go.Proofs.YtaifdgfegloafaaW.PrintWords Go.Proofs.YtaifdgfegloafaaW.PrintLast Go.Proofs.YtaifdgfegloafaaW.PrintMore Go.Proofs.Ytaifdgfegloafaa.Pr
set_option linter.unusedVariables false
set_option linter.unusedSimpArgs false

theorem gOf_same (a : List ByteArray) : ∀ (f i j : Nat), a.length - i ≤ f → i ≤ j → j < a.length → partN (gOf a a f i i) j = some j
  | 0, i, j, hf, hi, hj => by omega
  | f + 1, i, j, hf, hi, hj => by
    have hlt : i < a.length ∧ i < a.length := by omega
    unfold gOf
    rw [dif_pos hlt, if_pos rfl]
    by_cases c : i = j
    · subst c
      simp [partN]
    · have := gOf_same a f (i + 1) j (by omega) (by omega) hj
      unfold partN at this ⊢
      rw [List.find?_cons_of_neg (by simpa using c)]
      exact this
theorem bm_congr (v x : List (List ByteArray)) (n m : Nat) (h1 : x.getD n [] = v.getD m []) (h2 : x.getD (n + 1) [] = v.getD (m + 1) []) : bmN x n = bmN v m := by
  unfold bmN
  rw [h1, h2]
theorem bm_same (x : List (List ByteArray)) (n j : Nat) (h : x.getD (n + 1) [] = x.getD n []) (hj : j < (x.getD n []).length) : partN (bmN x n) j = some j := by
  unfold bmN
  rw [h]
  exact gOf_same _ _ 0 j (by omega) (by omega) hj
theorem getD_app (v : List (List ByteArray)) (l : List ByteArray) (n : Nat) (h : n < v.length) : (v ++ [l]).getD n [] = v.getD n [] := by
  simp [List.getD_eq_getElem?_getD, List.getElem?_append_left h]
theorem org_app (v : List (List ByteArray)) (l : List ByteArray) : ∀ (n i : Nat), n < v.length → orgN (v ++ [l]) n i = orgN v n i
  | 0, i, h => rfl
  | n + 1, i, h => by
    have e : bmN (v ++ [l]) n = bmN v n := bm_congr v _ n n (getD_app v l n (by omega)) (getD_app v l (n + 1) h)
    unfold orgN
    rw [e]
    cases partN (bmN v n) i with
    | none => rfl
    | some j => exact org_app v l n j (by omega)
theorem row_app (v : List (List ByteArray)) (hv : 0 < v.length) : rowO (v ++ [v.getD (v.length - 1) []]) v.length = rowO v (v.length - 1) := by
  obtain ⟨n, hn⟩ : ∃ n, v.length = n + 1 := ⟨v.length - 1, by omega⟩
  have e0 : (v ++ [v.getD n []]).getD (n + 1) [] = v.getD n [] := by
    simp [List.getD_eq_getElem?_getD, ← hn]
  have e1 : (v ++ [v.getD n []]).getD n [] = v.getD n [] := getD_app v _ n (by omega)
  rw [hn, Nat.add_sub_cancel]
  unfold rowO
  rw [e0]
  refine List.map_congr_left fun i hi => ?_
  have hi := List.mem_range.1 hi
  unfold orgS
  have e2 : orgN (v ++ [v.getD n []]) (n + 1) i = orgN v n i := by
    rw [← org_app v (v.getD n []) n i (by omega)]
    show (match partN (bmN (v ++ [v.getD n []]) n) i with | some j => orgN (v ++ [v.getD n []]) n j | none => (n + 1, i)) = _
    rw [bm_same _ n i (by rw [e0, e1]) (by rw [e1]; exact hi)]
  rw [e2]
theorem org_cons (v : List (List ByteArray)) : ∀ (m i : Nat), i < (v.getD m []).length → orgN (v.getD 0 [] :: v) (m + 1) i = (if (orgN v m i).1 = 0 then 0 else (orgN v m i).1 + 1, (orgN v m i).2)
  | 0, i, h => by
    show (match partN (bmN (v.getD 0 [] :: v) 0) i with | some j => orgN (v.getD 0 [] :: v) 0 j | none => (0 + 1, i)) = _
    rw [bm_same (v.getD 0 [] :: v) 0 i rfl h]
    rfl
  | m + 1, i, h => by
    have e : bmN (v.getD 0 [] :: v) (m + 1) = bmN v m := bm_congr v _ (m + 1) m rfl rfl
    show (match partN (bmN (v.getD 0 [] :: v) (m + 1)) i with | some j => orgN (v.getD 0 [] :: v) (m + 1) j | none => (m + 1 + 1, i)) = (if (match partN (bmN v m) i with | some j => orgN v m j | none => (m + 1, i)).1 = 0 then 0 else (match partN (bmN v m) i with | some j => orgN v m j | none => (m + 1, i)).1 + 1, (match partN (bmN v m) i with | some j => orgN v m j | none => (m + 1, i)).2)
    rw [e]
    cases c : partN (bmN v m) i with
    | none => simp
    | some j =>
      have hb := (bmN_match v m).bounds (j, i) (partN_mem c)
      exact org_cons v m j hb.2.2.1
theorem firstErr_of : ∀ (v : List (List ByteArray)), (∀ l ∈ v, linesErr l = 0) → firstErr v = 0
  | [], _ => rfl
  | l :: v, h => by
    unfold firstErr
    rw [if_pos (h l (by simp))]
    exact firstErr_of v fun x hx => h x (by simp [hx])
theorem valid_of {v x : List (List ByteArray)} (h : ValidV v) (hx : ∀ l ∈ x, l ∈ v) (hl : x.length ≤ 10) (h0 : 0 < x.length) : ValidV x := by
  refine ⟨List.all_eq_true.2 fun l hl => List.all_eq_true.1 h.sm l (hx l hl), ?_⟩
  unfold vErr
  rw [if_neg (by omega), if_neg (by omega)]
  exact firstErr_of x fun l hl => (vErr_zero h.ok).2.2 l (hx l hl)
theorem blame_at {v : List (List ByteArray)} (h : ValidV v) : Ev (fun k => blame_Blame.f k v) (rowO v (v.length - 1), (0 : Int)) := by
  have b := blame_ev v h.sm (by have := h.len; omega)
  rw [if_pos h.ok] at b
  exact b
theorem more_l0 {v : List (List ByteArray)} (h : ValidV v) (ht : tiny (v.getD 0 [])) : ∀ (d i : Nat), i + d = (v.getD (v.length - 1) []).length → Ev (fun k => sidinglaw23_BlameMore.l0 k v true (rowO v (v.length - 1)) (rowO (v.getD 0 [] :: v) v.length) (i : Int)) true := by
  have hl := h.len
  have hg := (h.lines (v.length - 1) (by omega)).2.2.1
  have ly : (rowO (v.getD 0 [] :: v) v.length).length = (v.getD (v.length - 1) []).length := by
    rw [rowO_length]
    obtain ⟨n, hn⟩ : ∃ n, v.length = n + 1 := ⟨v.length - 1, by omega⟩
    rw [hn, Nat.add_sub_cancel]
    rfl
  intro d
  induction d with
  | zero =>
    intro i hi
    refine Ev.step (fun k => by rw [sidinglaw23_BlameMore.l0]) ?_
    rw [rowO_length]
    refine Ev.neg (by omega) (Ev.pos rfl (Ev.pos (by omega) ?_))
    obtain ⟨s, e, _⟩ := h.lines 0 (by omega)
    rw [show rd_Lstr v 0 = v.getD 0 [] from rdL_getD v 0]
    exact Ev.bd (rlines_ev _ ht) (Ev.rt (by rw [e]; rfl))
  | succ d ih =>
    intro i hi
    refine Ev.step (fun k => by rw [sidinglaw23_BlameMore.l0]) ?_
    have hi' : i < (v.getD (v.length - 1) []).length := by omega
    have oy : rd_T43 (rowO (v.getD 0 [] :: v) v.length) (i : Int) = orgS (v.getD 0 [] :: v) v.length i := rowO_at _ _ _ (by rw [rowO_length] at ly; omega)
    have ox := rowO_at v (v.length - 1) i hi'
    have oc := org_cons v (v.length - 1) i hi'
    rw [Nat.sub_add_cancel (by omega)] at oc
    have ob := orgN_le v (v.length - 1) i
    rw [oy, ox, ly, rowO_length, w64 (x := (i : Int) + 1) (by omega)]
    refine Ev.pos (by omega) (Ev.pos (by omega) ?_)
    unfold orgS
    rw [oc]
    by_cases c : (orgN v (v.length - 1) i).1 = 0
    · refine Ev.neg (by simp [c]) (Ev.pos (by omega) (Ev.neg (by simp [c]) (ih (i + 1) (by omega))))
    · refine Ev.pos (by show ((orgN v (v.length - 1) i).1 : Int) > 0; omega) (Ev.pos (by omega) (Ev.neg ?_ (ih (i + 1) (by omega))))
      rw [w64 (by show _ ≤ ((orgN v (v.length - 1) i).1 : Int) + 1 ∧ ((orgN v (v.length - 1) i).1 : Int) + 1 ≤ _; omega)]
      simp [c]
theorem BlameMore : sidinglaw23_BlameMore.Pure := by
  intro v hv
  apply Ev.rounds (g := fun k => sidinglaw23_BlameMore.f k v)
  unfold sidinglaw23_BlameMore.f
  have hlv : v.length ≤ 9000000000000000000 := by omega
  have hlx : ∀ x ∈ v, x.length ≤ 9000000000000000000 := fun x hx => by have := (hv.2 x hx).1; omega
  have out : Ev (fun k => sidinglaw23_BlameMore.j0 k v true true) true := by
    refine Ev.step (fun k => by rw [sidinglaw23_BlameMore.j0]) ?_
    exact Ev.pos rfl (Ev.now _)
  refine Ev.bd alive23_ev (Ev.bd (fitV_ev v hlv hlx) ?_)
  by_cases h1 : fitV v = true
  · refine Ev.pos h1 ?_
    by_cases h2 : (v.length : Int) > 9
    · exact Ev.pos h2 out
    refine Ev.neg h2 (Ev.step (fun k => by rw [sidinglaw23_BlameMore.j0]) (Ev.neg (by decide) ?_))
    have h := fitV_valid h1
    have hl := h.len
    have ht : tiny (v.getD 0 []) := by
      have h3 := h1
      unfold fitV at h3
      rw [Bool.and_eq_true, Bool.not_eq_true'] at h3
      rw [getD_at [] v 0 hl.2]
      exact (longV_tiny h3.1).2 _ (List.getElem_mem hl.2)
    have e1 : wrap64 ((v.length : Int) - 1) = ((v.length - 1 : Nat) : Int) := by rw [w64 (by omega)]; omega
    have hm : ∀ n : Nat, n < v.length → v.getD n [] ∈ v := fun n hn => by rw [getD_at [] v n hn]; exact List.getElem_mem hn
    have hx : ValidV (v ++ [v.getD (v.length - 1) []]) := valid_of h (fun l hl' => by
      rcases List.mem_append.1 hl' with c | c
      · exact c
      · rw [List.mem_singleton.1 c]; exact hm _ (by omega)) (by simp; omega) (by simp)
    have hy : ValidV (v.getD 0 [] :: v) := valid_of h (fun l hl' => by
      rcases List.mem_cons.1 hl' with c | c
      · rw [c]; exact hm _ (by omega)
      · exact c) (by simp; omega) (by simp)
    have bx := blame_at hx
    rw [show (v ++ [v.getD (v.length - 1) []]).length - 1 = v.length by simp, row_app v hl.2] at bx
    have bY := blame_at hy
    rw [show (v.getD 0 [] :: v).length - 1 = v.length by simp] at bY
    have hg := (h.lines (v.length - 1) (by omega)).2.2.1
    have ly : (rowO (v.getD 0 [] :: v) v.length).length = (rowO v (v.length - 1)).length := by
      rw [rowO_length, rowO_length]
      obtain ⟨n, hn⟩ : ∃ n, v.length = n + 1 := ⟨v.length - 1, by omega⟩
      rw [hn, Nat.add_sub_cancel]
      rfl
    refine Ev.bd (blame_at h) (Ev.bs (Ev.pos (by simp; omega) (Ev.bs ?_)))
    rw [e1, rdL_getD, show rd_Lstr v 0 = v.getD 0 [] from rdL_getD v 0, List.nil_append]
    refine Ev.pos (by omega) (Ev.pos (by omega) (Ev.bs (Ev.pos (by simp; omega) (Ev.bd bx (Ev.pos (by omega) (Ev.bs (Ev.pos (by simp; omega) ?_)))))))
    rw [show [v.getD 0 []] ++ v = v.getD 0 [] :: v from rfl]
    refine Ev.bd bY (Ev.pos rfl (Ev.pos rfl (Ev.pos rfl (Ev.bd (same23_ev _ (by rw [rowO_length]; omega)) (Ev.pos rfl ?_)))))
    show Ev (fun k => sidinglaw23_BlameMore.j1 k v true (rowO v (v.length - 1)) (rowO (v.getD 0 [] :: v) v.length) (((rowO (v.getD 0 [] :: v) v.length).length : Int) != ((rowO v (v.length - 1)).length : Int))) true
    rw [ly]
    refine Ev.step (fun k => by rw [sidinglaw23_BlameMore.j1]) (Ev.neg (by simp) ?_)
    exact more_l0 h ht _ 0 (Nat.zero_add _)
  · exact Ev.neg h1 out
end Go.Proofs.Ytaifdgfegloafaa.Pure
