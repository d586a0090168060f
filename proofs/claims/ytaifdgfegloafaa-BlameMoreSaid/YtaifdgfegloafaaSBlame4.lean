/- The plain side of blame, 4: counts, comparisons, valid versions, the chapter's examples. -/
import Derived.Test.YtaifdgfegloafaaSBlame3
import Derived.Test.YtaifdgfegloafaaF18
import Derived.Test.YtaifdgfegloafaaF17
namespace Go.Proofs.Ytaifdgfegloafaa.Pr
open Go.RowKit Go.Proofs.YtaifdgfegloafaaW.PrintWords Go.Proofs.YtaifdgfegloafaaW.PrintLast Go.Proofs.YtaifdgfegloafaaW.PrintMore
set_option linter.unusedVariables false
set_option linter.unusedSimpArgs false

/-- How many of the origins are in each version. -/
def hist (len : Nat) (os : List S43) : List Int := (List.range len).map fun n : Nat => (((os.filter fun o => decide (o.f0 = (n : Int))).length : Nat) : Int)
theorem hist_length (len : Nat) (os : List S43) : (hist len os).length = len := by simp [hist]
theorem hist_at (len : Nat) (os : List S43) (n : Nat) (h : n < len) : rd (hist len os) (n : Int) = (((os.filter fun o => decide (o.f0 = (n : Int))).length : Nat) : Int) := by
  rw [rd_at (hist len os) n (by rw [hist_length]; exact h)]
  simp [hist]
theorem hist_nil (len : Nat) : hist len [] = List.replicate len 0 := by
  apply List.ext_getElem
  · simp [hist]
  · intro x h1 h2
    simp [hist]
theorem hist_step (len : Nat) (os : List S43) (o : S43) (n : Nat) (hn : n < len) (ho : o.f0 = (n : Int)) : (hist len os).set n ((((os.filter fun o => decide (o.f0 = (n : Int))).length : Nat) : Int) + 1) = hist len (os ++ [o]) := by
  unfold hist
  refine range_set _ n _ _ _ (fun x hx hne => ?_) (fun _ => ?_)
  · rw [List.filter_append]
    have e : ([o].filter fun o => decide (o.f0 = (x : Int))) = [] := by
      simp only [List.filter_cons, List.filter_nil, ho]
      rw [if_neg (by simp; omega)]
    rw [e, List.append_nil]
  · rw [List.filter_append]
    have e : ([o].filter fun o => decide (o.f0 = (n : Int))) = [o] := by simp [ho]
    rw [e, List.length_append]
    rfl
theorem orgN_le (v : List (List ByteArray)) : ∀ (n i : Nat), (orgN v n i).1 ≤ n
  | 0, i => Nat.le_refl 0
  | n + 1, i => by
    simp only [orgN]
    cases partN (bmN v n) i with
    | none => exact Nat.le_refl _
    | some j => exact Nat.le_succ_of_le (orgN_le v n j)
theorem rowO_get (v : List (List ByteArray)) (n i : Nat) (h : i < (rowO v n).length) : (rowO v n)[i] = orgS v n i := by simp [rowO]
theorem rdO_get (os : List S43) (i : Nat) (h : i < os.length) : rd_T43 os (i : Int) = os[i] := by simp [rd_T43, h]
theorem count_l0 {v : List (List ByteArray)} (h : ValidV v) : ∀ (d j : Nat), j + d = (rowO v (v.length - 1)).length → Ev (fun k => blame_Count.l0 k (hist v.length ((rowO v (v.length - 1)).take j)) (rowO v (v.length - 1)) ((rowO v (v.length - 1)).length : Int) (j : Int)) (hist v.length (rowO v (v.length - 1)), (0 : Int)) := by
  have hl := h.len
  have hr : (rowO v (v.length - 1)).length ≤ 60 := by rw [rowO_length]; exact (h.lines (v.length - 1) (by omega)).2.2.1
  intro d
  induction d with
  | zero =>
    intro j hj
    refine Ev.step (fun k => by rw [blame_Count.l0]) ?_
    rw [List.take_of_length_le (by omega)]
    exact Ev.neg (by omega) (Ev.now _)
  | succ d ih =>
    intro j hj
    have hlt : j < (rowO v (v.length - 1)).length := by omega
    refine Ev.step (fun k => by rw [blame_Count.l0]) ?_
    rw [rdO_get _ j hlt, rowO_get _ _ j hlt, hist_length]
    have e : (orgS v (v.length - 1) j).f0 = (((orgN v (v.length - 1) j).1 : Nat) : Int) := rfl
    have hn : (orgN v (v.length - 1) j).1 < v.length := by have := orgN_le v (v.length - 1) j; omega
    rw [e]
    refine Ev.pos (by omega) (Ev.pos (by omega) (Ev.pos (by omega) (Ev.pos (by omega) (Ev.pos (by omega) ?_))))
    have hf : (((rowO v (v.length - 1)).take j).filter fun o => decide (o.f0 = (((orgN v (v.length - 1) j).1 : Nat) : Int))).length ≤ 60 := Nat.le_trans (List.length_filter_le _ _) (by rw [List.length_take]; omega)
    rw [hist_at _ _ _ hn, w64 (x := (j : Int) + 1) (by omega), w64 (by omega), Int.toNat_natCast, hist_step v.length _ (orgS v (v.length - 1) j) _ hn e]
    have := ih (j + 1) (by omega)
    rw [take_succ_at _ j hlt, rowO_get _ _ j hlt] at this
    exact this
theorem count_ev (v : List (List ByteArray)) (hv : smallV v = true) (hl : v.length ≤ 9000000000000000000) : Ev (fun k => blame_Count.f k v) (if vErr v = 0 then (hist v.length (rowO v (v.length - 1)), (0 : Int)) else (([] : List Int), vErr v)) := by
  unfold blame_Count.f
  refine Ev.bd (vcheck_ev v hv hl) ?_
  by_cases h : vErr v = 0
  · rw [if_pos h]
    have hV : ValidV v := ⟨hv, h⟩
    have := hV.len
    refine Ev.pos h (Ev.pos (by omega) (Ev.pos (by omega) (Ev.bd (origins_ev hV) ?_)))
    have h2 := count_l0 hV (rowO v (v.length - 1)).length 0 (by omega)
    rw [List.take_zero, hist_nil] at h2
    rw [Int.toNat_natCast]
    exact h2
  · rw [if_neg h]
    exact Ev.neg h (Ev.now _)
theorem same23_loop (a : List S43) (hl : a.length ≤ 9000000000000000000) : ∀ (d i : Nat), i + d = a.length → Ev (fun k => sidingref23_Same.l0 k a a (i : Int)) true := by
  intro d
  induction d with
  | zero =>
    intro i hi
    refine Ev.step (fun k => by rw [sidingref23_Same.l0]) ?_
    exact Ev.neg (by omega) (Ev.now _)
  | succ d ih =>
    intro i hi
    refine Ev.step (fun k => by rw [sidingref23_Same.l0]) ?_
    refine Ev.pos (by omega) (Ev.pos (by omega) (Ev.pos (by omega) (Ev.neg (by simp) ?_)))
    rw [w64 (x := (i : Int) + 1) (by omega)]
    exact ih (i + 1) (by omega)
theorem same23_ev (a : List S43) (hl : a.length ≤ 9000000000000000000) : Ev (fun k => sidingref23_Same.f k a a) true := by
  unfold sidingref23_Same.f
  exact Ev.pos rfl (same23_loop a hl a.length 0 (by omega))
theorem ints_loop (a : List Int) (hl : a.length ≤ 9000000000000000000) : ∀ (d i : Nat), i + d = a.length → Ev (fun k => sidingref16_SameInts.l0 k a a (i : Int)) true := by
  intro d
  induction d with
  | zero =>
    intro i hi
    refine Ev.step (fun k => by rw [sidingref16_SameInts.l0]) ?_
    exact Ev.neg (by omega) (Ev.now _)
  | succ d ih =>
    intro i hi
    refine Ev.step (fun k => by rw [sidingref16_SameInts.l0]) ?_
    refine Ev.pos (by omega) (Ev.pos (by omega) (Ev.pos (by omega) (Ev.pos rfl ?_)))
    rw [w64 (x := (i : Int) + 1) (by omega)]
    exact ih (i + 1) (by omega)
theorem ints_ev (a : List Int) (hl : a.length ≤ 9000000000000000000) : Ev (fun k => sidingref16_SameInts.f k a a) true := by
  unfold sidingref16_SameInts.f
  exact Ev.pos rfl (ints_loop a hl a.length 0 (by omega))
/-- The chapter's versions. -/
def givenV : List (List ByteArray) := [[⟨#[97]⟩, ⟨#[98]⟩], [⟨#[97]⟩, ⟨#[120]⟩, ⟨#[98]⟩], [⟨#[120]⟩, ⟨#[98]⟩, ⟨#[99]⟩]]
theorem given_val : sidinglaw23_given.f = some givenV := rfl
theorem givenV_small : smallV givenV = true := by decide +kernel
theorem givenV_ok : vErr givenV = 0 := by decide +kernel
theorem givenV_row : rowO givenV (givenV.length - 1) = [⟨1, 1⟩, ⟨0, 1⟩, ⟨2, 2⟩] := by kernel_rfl
theorem givenV_t1 : traceL givenV (givenV.length - 1) 1 = [1, 2, 1] := by decide +kernel
theorem givenV_t2 : traceL givenV (givenV.length - 1) 2 = [2] := by decide +kernel
theorem givenV_hist : hist givenV.length [⟨1, 1⟩, ⟨0, 1⟩, ⟨2, 2⟩] = [1, 1, 1] := by decide +kernel
theorem alive23_ev : Ev (fun k => sidinglaw23_alive.f k) true := by
  unfold sidinglaw23_alive.f
  have b := blame_ev givenV givenV_small (by decide)
  rw [if_pos givenV_ok, givenV_row] at b
  have c := count_ev givenV givenV_small (by decide)
  rw [if_pos givenV_ok, givenV_row, givenV_hist] at c
  have t1 := trace_val givenV 1 givenV_small (by decide)
  rw [if_pos givenV_ok, if_neg (by decide), givenV_t1] at t1
  have t2 := trace_val givenV 2 givenV_small (by decide)
  rw [if_pos givenV_ok, if_neg (by decide), givenV_t2] at t2
  refine Ev.bc given_val (Ev.bd b (Ev.bc given_val (Ev.bc t1 (Ev.bc given_val (Ev.bc t2 (Ev.bc given_val (Ev.bd c (Ev.pos rfl (Ev.bd (same23_ev _ (by decide)) (Ev.pos rfl (Ev.pos rfl (Ev.bd (ints_ev [1, 2, 1] (by decide)) (Ev.pos rfl (Ev.pos rfl (Ev.bd (ints_ev [2] (by decide)) (Ev.pos rfl (Ev.pos rfl (Ev.bd (ints_ev [1, 1, 1] (by decide)) (Ev.rt rfl)))))))))))))))))))
/-- Versions that are longer than the statements consider. -/
def longV (v : List (List ByteArray)) : Bool := (v.take 21).any longOf || decide (20 < v.length)
theorem longV_loop (v : List (List ByteArray)) (hl : v.length ≤ 9000000000000000000) (hx : ∀ x ∈ v, x.length ≤ 9000000000000000000) : ∀ (d i : Nat), i + d = min v.length 21 → Ev (fun k => sidingref23_Long.l0 k v (i : Int)) (((v.drop i).take (21 - i)).any longOf || decide (20 < v.length)) := by
  intro d
  induction d with
  | zero =>
    intro i hi
    refine Ev.step (fun k => by rw [sidingref23_Long.l0]) ?_
    have e : ((v.drop i).take (21 - i)).any longOf = false := by
      by_cases h : v.length ≤ 21
      · rw [List.drop_eq_nil_of_le (by omega), List.take_nil]
        rfl
      · rw [show 21 - i = 0 by omega]
        rfl
    rw [e, Bool.false_or]
    by_cases h : i < v.length
    · refine Ev.pos (by omega) ?_
      rw [decide_eq_false (show ¬ (i : Int) ≤ 20 by omega)]
      refine Ev.step (fun k => by rw [sidingref23_Long.j1]) ?_
      refine Ev.neg (by decide) (Ev.rt ?_)
      congr 1
      rw [eq_iff_iff]
      omega
    · refine Ev.neg (by omega) ?_
      refine Ev.step (fun k => by rw [sidingref23_Long.j1]) ?_
      refine Ev.neg (by decide) (Ev.rt ?_)
      congr 1
      rw [eq_iff_iff]
      omega
  | succ d ih =>
    intro i hi
    have hlt : i < v.length := by omega
    refine Ev.step (fun k => by rw [sidingref23_Long.l0]) ?_
    refine Ev.pos (by omega) ?_
    rw [decide_eq_true (show (i : Int) ≤ 20 by omega)]
    refine Ev.step (fun k => by rw [sidingref23_Long.j1]) ?_
    rw [rdL_at v i hlt, drop_at v i hlt, show 21 - i = (21 - (i + 1)) + 1 by omega, List.take_succ_cons, List.any_cons]
    refine Ev.pos rfl (Ev.pos (by omega) (Ev.pos (by omega) (Ev.bd (long_ev v[i] (hx _ (List.getElem_mem hlt))) ?_)))
    by_cases h : longOf v[i] = true
    · rw [h]
      exact Ev.pos rfl (Ev.rt rfl)
    · rw [Bool.eq_false_iff.2 h, Bool.false_or]
      refine Ev.neg (by decide) ?_
      rw [w64 (x := (i : Int) + 1) (by omega)]
      exact ih (i + 1) (by omega)
theorem longV_ev (v : List (List ByteArray)) (hl : v.length ≤ 9000000000000000000) (hx : ∀ x ∈ v, x.length ≤ 9000000000000000000) : Ev (fun k => sidingref23_Long.f k v) (longV v) := by
  unfold sidingref23_Long.f
  have := longV_loop v hl hx (min v.length 21) 0 (by omega)
  simpa [longV] using this
theorem longV_tiny {v : List (List ByteArray)} (h : longV v = false) : v.length ≤ 20 ∧ ∀ x ∈ v, tiny x := by
  unfold longV at h
  rw [Bool.or_eq_false_iff] at h
  have hl : v.length ≤ 20 := by simpa using h.2
  refine ⟨hl, fun x hx => ?_⟩
  rw [List.take_of_length_le (by omega)] at h
  have := List.any_eq_false.1 h.1 x hx
  exact (longOf_tiny (Bool.eq_false_iff.2 this)).2
theorem smallV_tiny {v : List (List ByteArray)} (h : ∀ x ∈ v, tiny x) : smallV v = true := List.all_eq_true.2 fun x hx => B_of_small (h x hx).small
theorem check23_loop (v : List (List ByteArray)) (hv : ∀ x ∈ v, tiny x) (hl : v.length ≤ 1000000) : ∀ (d i : Nat), i + d = v.length → Ev (fun k => sidingref23_Check.l0 k v (i : Int)) (firstErr (v.drop i)) := by
  intro d
  induction d with
  | zero =>
    intro i hi
    refine Ev.step (fun k => by rw [sidingref23_Check.l0]) ?_
    rw [List.drop_eq_nil_of_le (by omega)]
    exact Ev.neg (by omega) (Ev.now _)
  | succ d ih =>
    intro i hi
    have hlt : i < v.length := by omega
    refine Ev.step (fun k => by rw [sidingref23_Check.l0]) ?_
    rw [rdL_at v i hlt, drop_at v i hlt]
    have hr := rlines_ev v[i] (hv _ (List.getElem_mem hlt))
    refine Ev.pos (by omega) (Ev.pos (by omega) (Ev.bd hr ?_))
    simp only [firstErr]
    by_cases h : linesErr v[i] = 0
    · rw [if_pos h, w64 (x := (i : Int) + 1) (by omega)]
      exact Ev.pos h (ih (i + 1) (by omega))
    · rw [if_neg h]
      exact Ev.neg h (Ev.bd hr (Ev.now _))
theorem check23_ev (v : List (List ByteArray)) (hv : ∀ x ∈ v, tiny x) (hl : v.length ≤ 1000000) : Ev (fun k => sidingref23_Check.f k v) (vErr v) := by
  unfold sidingref23_Check.f vErr
  by_cases h1 : 10 < v.length
  · rw [if_pos h1]
    exact Ev.pos (by omega) (Ev.now _)
  · rw [if_neg h1]
    refine Ev.neg (by omega) ?_
    by_cases h2 : v.length = 0
    · rw [if_pos h2]
      exact Ev.pos (by omega) (Ev.now _)
    · rw [if_neg h2]
      refine Ev.neg (by omega) ?_
      have := check23_loop v hv hl v.length 0 (by omega)
      simpa using this
def fitV (v : List (List ByteArray)) : Bool := !longV v && (vErr v == 0)
theorem fitV_ev (v : List (List ByteArray)) (hl : v.length ≤ 9000000000000000000) (hx : ∀ x ∈ v, x.length ≤ 9000000000000000000) : Ev (fun k => sidinglaw23_fit.f k v) (fitV v) := by
  unfold sidinglaw23_fit.f fitV
  refine Ev.bd (longV_ev v hl hx) ?_
  by_cases h : longV v = true
  · rw [h]
    exact Ev.pos rfl (Ev.rt rfl)
  · rw [Bool.eq_false_iff.2 h]
    obtain ⟨h1, h2⟩ := longV_tiny (Bool.eq_false_iff.2 h)
    refine Ev.neg (by decide) (Ev.bd (check23_ev v h2 (by omega)) (Ev.rt ?_))
    simp
theorem fitV_valid {v : List (List ByteArray)} (h : fitV v = true) : ValidV v := by
  unfold fitV at h
  rw [Bool.and_eq_true, Bool.not_eq_true'] at h
  exact ⟨smallV_tiny (longV_tiny h.1).2, by simpa using h.2⟩
end Go.Proofs.Ytaifdgfegloafaa.Pr
