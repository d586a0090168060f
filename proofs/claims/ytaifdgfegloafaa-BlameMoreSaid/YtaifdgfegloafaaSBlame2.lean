/- The plain side of blame, 2: the program's origins. -/
import Derived.Test.YtaifdgfegloafaaSBlame
namespace Go.Proofs.Ytaifdgfegloafaa.Pr
open Go.RowKit Go.Proofs.YtaifdgfegloafaaW.PrintWords Go.Proofs.YtaifdgfegloafaaW.PrintLast Go.Proofs.YtaifdgfegloafaaW.PrintMore
set_option linter.unusedVariables false
set_option linter.unusedSimpArgs false

def orgS (v : List (List ByteArray)) (n i : Nat) : S43 := ⟨((orgN v n i).1 : Int), ((orgN v n i).2 : Int)⟩
/-- The origins of all lines of version n. -/
def rowO (v : List (List ByteArray)) (n : Nat) : List S43 := (List.range (v.getD n []).length).map fun i => orgS v n i
theorem rowO_length (v : List (List ByteArray)) (n : Nat) : (rowO v n).length = (v.getD n []).length := by simp [rowO]
theorem rowO_at (v : List (List ByteArray)) (n i : Nat) (h : i < (v.getD n []).length) : rd_T43 (rowO v n) (i : Int) = orgS v n i := by
  have hl : i < (rowO v n).length := by rw [rowO_length]; exact h
  simp only [rd_T43, Int.toNat_natCast]
  rw [List.getD_eq_getElem?_getD, List.getElem?_eq_getElem hl]
  simp [rowO]
theorem Match.bounds {α : Type} [DecidableEq α] {a b : List α} {i k : Nat} {m : List (Nat × Nat)} (h : Match a b i k m) : ∀ p ∈ m, k ≤ p.2 ∧ i ≤ p.1 ∧ p.1 < a.length ∧ p.2 < b.length := by
  induction h with
  | nil => simp
  | cons i k p m h1 h2 h3 h4 he hm ih =>
    intro q hq
    rcases List.mem_cons.1 hq with rfl | hq
    · exact ⟨h2, h1, h3, h4⟩
    · have := ih q hq
      omega
theorem Match.pairs {α : Type} [DecidableEq α] {a b : List α} {i k : Nat} {m : List (Nat × Nat)} (h : Match a b i k m) : m.Pairwise fun p q => p.1 < q.1 ∧ p.2 < q.2 := by
  induction h with
  | nil => exact .nil
  | cons i k p m h1 h2 h3 h4 he hm ih =>
    refine .cons (fun q hq => ?_) ih
    have := hm.bounds q hq
    omega
theorem Match.same {α : Type} [DecidableEq α] {a b : List α} {i k : Nat} {m : List (Nat × Nat)} (h : Match a b i k m) : ∀ p ∈ m, a[p.1]? = b[p.2]? := by
  induction h with
  | nil => simp
  | cons i k p m h1 h2 h3 h4 he hm ih =>
    intro q hq
    rcases List.mem_cons.1 hq with rfl | hq
    · rw [List.getElem?_eq_getElem h3, List.getElem?_eq_getElem h4, he]
    · exact ih q hq
theorem bmN_match (v : List (List ByteArray)) (n : Nat) : Match (v.getD n []) (v.getD (n + 1) []) 0 0 (bmN v n) := (gOf_greedy _ _ _ 0 0 (by omega)).match
theorem partN_mem {m : List (Nat × Nat)} {i j : Nat} (h : partN m i = some j) : (j, i) ∈ m := by
  unfold partN at h
  obtain ⟨p, hp, rfl⟩ := Option.map_eq_some_iff.1 h
  have h1 := List.mem_of_find?_eq_some hp
  have h2 := List.find?_some hp
  have : p.2 = i := by simpa using h2
  rw [← this]
  exact h1
theorem partN_take_none {m : List (Nat × Nat)} (hp : m.Pairwise fun p q => p.1 < q.1 ∧ p.2 < q.2) (j : Nat) (h : j < m.length) : partN (m.take j) (m[j]).2 = none := by
  cases e : partN (m.take j) (m[j]).2 with
  | none => rfl
  | some x =>
    have hm := partN_mem e
    obtain ⟨q, hq, he⟩ := List.getElem_of_mem hm
    rw [List.getElem_take] at he
    rw [List.length_take] at hq
    have := List.pairwise_iff_getElem.1 hp q j (by omega) h (by omega)
    rw [he] at this
    simp at this
theorem partN_take_succ (m : List (Nat × Nat)) (j x : Nat) (h : j < m.length) : partN (m.take (j + 1)) x = match partN (m.take j) x with
    | some y => some y
    | none => if (m[j]).2 = x then some (m[j]).1 else none := by
  rw [take_succ_at m j h]
  unfold partN
  rw [List.find?_append]
  cases e : (m.take j).find? fun p => p.2 == x with
  | some p => simp
  | none =>
    by_cases h2 : (m[j]).2 = x
    · simp [h2]
    · simp [h2]
/-- The row while it is filled. -/
def fillO (v : List (List ByteArray)) (n i : Nat) : List S43 := (List.range (v.getD n []).length).map fun x => if x < i then ⟨(n : Int), (x : Int)⟩ else z43
def pairO (v : List (List ByteArray)) (n j : Nat) : List S43 := (List.range (v.getD (n + 1) []).length).map fun x => match partN ((bmN v n).take j) x with
  | some y => orgS v n y
  | none => ⟨((n + 1 : Nat) : Int), (x : Int)⟩
theorem range_set {β : Type} (len k : Nat) (f g : Nat → β) (c : β) (h1 : ∀ x, x < len → x ≠ k → f x = g x) (h2 : k < len → c = g k) : ((List.range len).map f).set k c = (List.range len).map g := by
  apply List.ext_getElem
  · simp
  · intro x h3 h4
    simp only [List.length_map, List.length_range] at h4
    rw [List.getElem_set]
    simp only [List.getElem_map, List.getElem_range]
    split
    · rename_i e
      subst e
      exact h2 h4
    · rename_i e
      exact h1 x h4 (fun e2 => e e2.symm)
theorem fillO_step (v : List (List ByteArray)) (n i : Nat) : (fillO v n i).set i ⟨(n : Int), (i : Int)⟩ = fillO v n (i + 1) := by
  unfold fillO
  refine range_set _ i _ _ _ (fun x hx hne => ?_) (fun h => ?_)
  · by_cases h : x < i
    · rw [if_pos h, if_pos (by omega)]
    · rw [if_neg h, if_neg (by omega)]
  · rw [if_pos (by omega)]
theorem fillO_zero (v : List (List ByteArray)) : fillO v 0 (v.getD 0 []).length = rowO v 0 := by
  unfold fillO rowO
  apply List.map_congr_left
  intro x hx
  rw [if_pos (List.mem_range.1 hx)]
  rfl
theorem fillO_succ (v : List (List ByteArray)) (n : Nat) : fillO v (n + 1) (v.getD (n + 1) []).length = pairO v n 0 := by
  unfold fillO pairO
  apply List.map_congr_left
  intro x hx
  rw [if_pos (List.mem_range.1 hx)]
  rfl
theorem pairO_step (v : List (List ByteArray)) (n j : Nat) (h : j < (bmN v n).length) : (pairO v n j).set ((bmN v n)[j]).2 (orgS v n ((bmN v n)[j]).1) = pairO v n (j + 1) := by
  unfold pairO
  refine range_set _ _ _ _ _ (fun x hx hne => ?_) (fun _ => ?_)
  · rw [partN_take_succ _ j x h]
    cases e : partN ((bmN v n).take j) x with
    | some y => rfl
    | none =>
      simp only
      rw [if_neg (fun e => hne e.symm)]
  · rw [partN_take_succ _ j _ h, partN_take_none (bmN_match v n).pairs j h]
    simp
theorem pairO_end (v : List (List ByteArray)) (n : Nat) : pairO v n (bmN v n).length = rowO v (n + 1) := by
  unfold pairO rowO
  rw [List.take_length]
  apply List.map_congr_left
  intro x hx
  simp only [orgS, orgN]
  cases partN (bmN v n) x <;> rfl
theorem pairO_length (v : List (List ByteArray)) (n j : Nat) : (pairO v n j).length = (v.getD (n + 1) []).length := by simp [pairO]
theorem fillO_length (v : List (List ByteArray)) (n j : Nat) : (fillO v n j).length = (v.getD n []).length := by simp [fillO]
end Go.Proofs.Ytaifdgfegloafaa.Pr
