/- The plain side of blame, 3: origins, Blame, Trace, Count. -/
import Derived.Test.YtaifdgfegloafaaSBlame2
namespace Go.Proofs.Ytaifdgfegloafaa.Pr
open Go.RowKit Go.Proofs.YtaifdgfegloafaaW.PrintWords Go.Proofs.YtaifdgfegloafaaW.PrintLast Go.Proofs.YtaifdgfegloafaaW.PrintMore
set_option linter.unusedVariables false
set_option linter.unusedSimpArgs false

theorem getD_at {α : Type} (d : α) (l : List α) (i : Nat) (h : i < l.length) : l.getD i d = l[i] := by simp [h]
theorem rdL_getD (v : List (List ByteArray)) (i : Nat) : rd_Lstr v (i : Int) = v.getD i [] := by simp [rd_Lstr]
structure ValidV (v : List (List ByteArray)) : Prop where
  sm : smallV v = true
  ok : vErr v = 0
theorem ValidV.len {v : List (List ByteArray)} (h : ValidV v) : v.length ≤ 10 ∧ 0 < v.length := ⟨(vErr_zero h.ok).1, (vErr_zero h.ok).2.1⟩
theorem ValidV.lines {v : List (List ByteArray)} (h : ValidV v) (i : Nat) (hi : i < v.length) : small (v.getD i []) ∧ linesErr (v.getD i []) = 0 ∧ (v.getD i []).length ≤ 60 ∧ 0 < (v.getD i []).length := by
  rw [getD_at [] v i hi]
  have h1 := (vErr_zero h.ok).2.2 _ (List.getElem_mem hi)
  have h2 := linesErr_zero h1
  exact ⟨smallV_at h.sm i hi, h1, h2.1, h2.2.2.1⟩
theorem best_at {v : List (List ByteArray)} (h : ValidV v) (n : Nat) (hn : n + 1 < v.length) : Ev (fun k => lcs_Best.f k (v.getD n []) (v.getD (n + 1) [])) ((bmN v n).map prOf, (0 : Int)) := by
  obtain ⟨s1, e1, _⟩ := h.lines n (by omega)
  obtain ⟨s2, e2, _⟩ := h.lines (n + 1) hn
  have := best_ev (v.getD n []) (v.getD (n + 1) []) s1 s2
  rw [if_pos (bothErr_zero.2 ⟨e1, e2⟩), bestOf_gOf] at this
  exact this
theorem bmN_length {v : List (List ByteArray)} (h : ValidV v) (n : Nat) (hn : n < v.length) : (bmN v n).length ≤ 60 := by
  have h1 := (bmN_match v n).length_le
  have h2 := lcsLen_le_left (v.getD n []) (v.getD (n + 1) [])
  have h3 := (h.lines n hn).2.2.1
  have : LL (v.getD n []) (v.getD (n + 1) []) 0 0 = lcsLen (v.getD n []) (v.getD (n + 1) []) := rfl
  omega
theorem rdT_pair (m : List (Nat × Nat)) (i : Nat) (h : i < m.length) : rd_T58 (m.map prOf) (i : Int) = prOf m[i] := by simp [rd_T58, h]
theorem origins_l2 {v : List (List ByteArray)} (h : ValidV v) (n : Nat) (hn : n + 1 < v.length) (r : List S43) (hnext : Ev (fun k => blame_origins.l0 k v (rowO v (n + 1)) v (v.length : Int) ((n + 1 : Nat) + 1 : Int)) r) : ∀ (d j : Nat), j + d = (bmN v n).length → Ev (fun k => blame_origins.l2 k v (rowO v n) (pairO v n j) v (v.length : Int) ((n + 1 : Nat) : Int) ((bmN v n).map prOf) ((bmN v n).length : Int) (j : Int)) r := by
  have hl := h.len.1
  have hb := bmN_length h n (by omega)
  intro d
  induction d with
  | zero =>
    intro j hj
    have e : j = (bmN v n).length := by omega
    subst e
    refine Ev.step (fun k => by rw [blame_origins.l2]) ?_
    rw [pairO_end, w64 (x := ((n + 1 : Nat) : Int) + 1) (by omega)]
    exact Ev.neg (by omega) hnext
  | succ d ih =>
    intro j hj
    have hlt : j < (bmN v n).length := by omega
    have hbd := (bmN_match v n).bounds _ (List.getElem_mem hlt)
    refine Ev.step (fun k => by rw [blame_origins.l2]) ?_
    rw [rdT_pair _ j hlt, List.length_map, rowO_length, pairO_length]
    have f0 : (prOf (bmN v n)[j]).f0 = (((bmN v n)[j]).1 : Int) := rfl
    have f1 : (prOf (bmN v n)[j]).f1 = (((bmN v n)[j]).2 : Int) := rfl
    rw [f0, f1]
    refine Ev.pos (by omega) (Ev.pos (by omega) (Ev.pos (by omega) (Ev.pos (by omega) (Ev.pos (by omega) (Ev.pos (by omega) (Ev.pos (by omega) ?_))))))
    have e1 : rd_T43 (rowO v n) (((bmN v n)[j]).1 : Int) = orgS v n ((bmN v n)[j]).1 := rowO_at v n _ (by omega)
    rw [e1]
    rw [Int.toNat_natCast]
    show Ev (fun k => blame_origins.l2 k v (rowO v n) ((pairO v n j).set ((bmN v n)[j]).2 (orgS v n ((bmN v n)[j]).1)) v _ _ _ _ _) r
    rw [pairO_step v n j hlt, w64 (x := (j : Int) + 1) (by omega)]
    exact ih (j + 1) (by omega)
theorem origins_l1 {v : List (List ByteArray)} (h : ValidV v) (n : Nat) (hn : n < v.length) (r : List S43) (hnext : Ev (fun k => blame_origins.l0 k v (rowO v n) v (v.length : Int) ((n : Int) + 1)) r) (x3 : List S43) (hx3 : ∀ m, n = m + 1 → x3 = rowO v m) : ∀ (d i : Nat), i + d = (v.getD n []).length → Ev (fun k => blame_origins.l1 k v x3 (n : Int) (v.getD n []) (fillO v n i) v (v.length : Int) (n : Int) ((v.getD n []).length : Int) (i : Int)) r := by
  have hl := h.len.1
  have hlen := (h.lines n hn).2.2.1
  intro d
  induction d with
  | zero =>
    intro i hi
    have e : i = (v.getD n []).length := by omega
    subst e
    refine Ev.step (fun k => by rw [blame_origins.l1]) ?_
    refine Ev.neg (by omega) ?_
    cases n with
    | zero =>
      rw [fillO_zero, w64 (x := ((0 : Nat) : Int) + 1) (by omega)]
      exact Ev.neg (by omega) hnext
    | succ m =>
      rw [hx3 m rfl, fillO_succ]
      have e1 : wrap64 (((m + 1 : Nat) : Int) - 1) = (m : Int) := by rw [w64 (by omega)]; omega
      rw [e1, rdL_getD]
      refine Ev.pos (by omega) (Ev.pos (by omega) (Ev.pos (by omega) (Ev.bd (best_at h m hn) ?_)))
      have := origins_l2 h m hn r hnext (bmN v m).length 0 (by omega)
      simpa using this
  | succ d ih =>
    intro i hi
    refine Ev.step (fun k => by rw [blame_origins.l1]) ?_
    rw [fillO_length]
    refine Ev.pos (by omega) (Ev.pos (by omega) (Ev.pos (by omega) ?_))
    rw [Int.toNat_natCast, fillO_step, w64 (x := (i : Int) + 1) (by omega)]
    exact ih (i + 1) (by omega)
theorem replicate_fill (v : List (List ByteArray)) (n : Nat) : List.replicate (((v.getD n []).length : Int)).toNat z43 = fillO v n 0 := by
  apply List.ext_getElem
  · rw [List.length_replicate, fillO_length, Int.toNat_natCast]
  · intro x h1 h2
    simp [fillO]
theorem origins_l0 {v : List (List ByteArray)} (h : ValidV v) : ∀ (d n : Nat), n + d = v.length → ∀ x3 : List S43, (∀ m, n = m + 1 → x3 = rowO v m) → Ev (fun k => blame_origins.l0 k v x3 v (v.length : Int) (n : Int)) (rowO v (v.length - 1)) := by
  have hl := h.len
  intro d
  induction d with
  | zero =>
    intro n hn x3 hx
    refine Ev.step (fun k => by rw [blame_origins.l0]) ?_
    rw [hx (v.length - 1) (by omega)]
    exact Ev.neg (by omega) (Ev.now _)
  | succ d ih =>
    intro n hn x3 hx
    have hlt : n < v.length := by omega
    have hlen := (h.lines n hlt).2.2.1
    refine Ev.step (fun k => by rw [blame_origins.l0]) ?_
    rw [rdL_getD]
    refine Ev.pos (by omega) (Ev.pos (by omega) (Ev.pos (by omega) (Ev.pos (by omega) (Ev.pos (by omega) (Ev.bs ?_)))))
    rw [replicate_fill, fillO_length]
    have := ih (n + 1) (by omega) (rowO v n) (fun m hm => by have : m = n := by omega
                                                             rw [this])
    have h2 := origins_l1 h n hlt _ (by simpa using this) x3 hx (v.getD n []).length 0 (by omega)
    simpa using h2
theorem origins_ev {v : List (List ByteArray)} (h : ValidV v) : Ev (fun k => blame_origins.f k v) (rowO v (v.length - 1)) := by
  unfold blame_origins.f
  have := origins_l0 h v.length 0 (by omega) [] (fun m hm => by omega)
  simpa using this
theorem blame_ev (v : List (List ByteArray)) (hv : smallV v = true) (hl : v.length ≤ 9000000000000000000) : Ev (fun k => blame_Blame.f k v) (if vErr v = 0 then (rowO v (v.length - 1), (0 : Int)) else (([] : List S43), vErr v)) := by
  unfold blame_Blame.f
  refine Ev.bd (vcheck_ev v hv hl) ?_
  by_cases h : vErr v = 0
  · rw [if_pos h]
    exact Ev.pos h (Ev.bd (origins_ev ⟨hv, h⟩) (Ev.now _))
  · rw [if_neg h]
    exact Ev.neg h (Ev.now _)
theorem trace_val (v : List (List ByteArray)) (a : Int) (hv : smallV v = true) (hl : v.length ≤ 9000000000000000000) : blame_Trace.f v a = some (if vErr v = 0 then (if a < 0 ∨ (((v.getD (v.length - 1) []).length : Nat) : Int) ≤ a then ([], 2) else ((traceL v (v.length - 1) a).reverse, 0)) else ([], vErr v)) := by
  unfold blame_Trace.f
  rw [if_pos (by rw [hv, decide_eq_true hl]; rfl)]
end Go.Proofs.Ytaifdgfegloafaa.Pr
