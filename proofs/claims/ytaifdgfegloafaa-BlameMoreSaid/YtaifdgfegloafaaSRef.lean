/- The plain side of the reference of lines: its texts, its errors, and Long. -/
import Derived.Test.YtaifdgfegloafaaSLines
import Derived.Test.YtaifdgfegloafaaFeed
import Derived.Test.YtaifdgfegloafaaF19
import Derived.Test.YtaifdgfegloafaaF20
namespace Go.Proofs.Ytaifdgfegloafaa.Pr
open Go.RowKit Go.Proofs.YtaifdgfegloafaaW.PrintWords Go.Proofs.YtaifdgfegloafaaW.PrintLast Go.Proofs.YtaifdgfegloafaaW.PrintMore
set_option linter.unusedVariables false
set_option linter.unusedSimpArgs false

/-- Each string has at most 10^9 bytes. -/
def tiny (l : List ByteArray) : Prop := ∀ s ∈ l, s.size ≤ 1000000000
theorem tiny.small {l : List ByteArray} (h : tiny l) : small l := fun s hs => by have := h s hs; omega
theorem tiny.take {l : List ByteArray} (h : tiny l) (i : Nat) : tiny (l.take i) := fun s hs => h s (List.mem_of_mem_take hs)
theorem tiny.drop {l : List ByteArray} (h : tiny l) (i : Nat) : tiny (l.drop i) := fun s hs => h s (List.mem_of_mem_drop hs)
theorem tiny.append {l m : List ByteArray} (h : tiny l) (k : tiny m) : tiny (l ++ m) := fun s hs => (List.mem_append.1 hs).elim (h s) (k s)
theorem bytesIn_tiny (l : List ByteArray) (h : tiny l) : bytesIn l ≤ l.length * 1000000000 := by
  induction l with
  | nil => simp [bytesIn]
  | cons s l ih =>
    have h1 := h s (by simp)
    have h2 := ih (fun x hx => h x (by simp [hx]))
    simp only [bytesIn, List.map_cons, List.sum_cons, List.length_cons] at h2 ⊢
    omega
/-- The text of a list of lines. -/
def fed (l : List ByteArray) : List Int := (l.map fun s => 10 :: bytesOf s).flatten
def textOf (l : List ByteArray) : List Int := (fed l).drop 1
theorem fed_length (l : List ByteArray) : (fed l).length = bytesIn l + l.length := by
  induction l with
  | nil => rfl
  | cons s l ih =>
    have e : fed (s :: l) = (10 :: bytesOf s) ++ fed l := by simp [fed]
    rw [e, List.length_append, ih, List.length_cons, bytesOf_length]
    simp only [bytesIn, List.map_cons, List.sum_cons, List.length_cons]
    omega
theorem textOf_length (l : List ByteArray) : (textOf l).length = bytesIn l + l.length - 1 := by
  rw [textOf, List.length_drop, fed_length]
theorem fed_take_succ (l : List ByteArray) (i : Nat) (h : i < l.length) : fed (l.take (i + 1)) = fed (l.take i) ++ 10 :: bytesOf l[i] := by
  unfold fed
  rw [take_succ_at l i h, List.map_append, List.flatten_append]
  simp
theorem textOf_take_succ (l : List ByteArray) (i : Nat) (h : i < l.length) : textOf (l.take (i + 1)) = if i = 0 then bytesOf l[i] else textOf (l.take i) ++ 10 :: bytesOf l[i] := by
  unfold textOf
  rw [fed_take_succ l i h]
  by_cases h0 : i = 0
  · subst h0
    simp [fed]
  · rw [if_neg h0]
    have := fed_length (l.take i)
    have h1 : (l.take i).length = i := by rw [List.length_take]; omega
    rw [List.drop_append_of_le_length (by omega)]

theorem text_loop (l : List ByteArray) (hs : tiny l) (hl : l.length ≤ 100000) : ∀ (d i : Nat), i + d = l.length → Ev (fun k => sidingref13_Text.l0 k l (textOf (l.take i)) (i : Int)) (textOf l) := by
  intro d
  induction d with
  | zero =>
    intro i hi
    obtain rfl : i = l.length := by omega
    refine Ev.step (fun k => by rw [sidingref13_Text.l0]) (Ev.neg (by omega) ?_)
    rw [List.take_length]
    exact Ev.now _
  | succ d ih =>
    intro i hi
    have hlt : i < l.length := by omega
    have hb := bytesIn_tiny _ (hs.take (i + 1))
    have hb1 := bytesIn_take_succ l i hlt
    have hk : (l.take (i + 1)).length = i + 1 := by rw [List.length_take]; omega
    have hk' : (l.take i).length = i := by rw [List.length_take]; omega
    have ht := textOf_length (l.take i)
    refine Ev.step (fun k => by rw [sidingref13_Text.l0]) (Ev.pos (by omega) ?_)
    have h := ih (i + 1) (by omega)
    rw [textOf_take_succ l i hlt] at h
    rw [rdOf_at _ _ _ hlt, w64 (by omega)]
    by_cases h0 : i = 0
    · subst h0
      rw [if_pos rfl] at h
      refine Ev.neg (by omega) (Ev.pos (by omega) (Ev.pos (by omega) ?_))
      simpa [textOf, fed] using h
    · rw [if_neg h0] at h
      refine Ev.pos (by omega) (Ev.pos (by omega) (Ev.bs (Ev.pos (by omega) (Ev.pos ?_ ?_))))
      · rw [List.length_append, List.length_singleton]
        omega
      · simpa using h
theorem text_ev (l : List ByteArray) (hs : tiny l) (hl : l.length ≤ 100000) : Ev (fun k => sidingref13_Text.f k l) (textOf l) := by
  unfold sidingref13_Text.f
  have h := text_loop l hs hl l.length 0 (by omega)
  simpa [textOf, fed] using h
theorem feed_ev (l : List ByteArray) (hs : tiny l) : ref13_Feed.f l = some (l.any feedy) := by
  unfold ref13_Feed.f
  rw [if_pos]
  exact List.all_eq_true.2 fun s hm => decide_eq_true (by have := hs s hm; omega)
theorem rlines_ev (l : List ByteArray) (hs : tiny l) : Ev (fun k => sidingref13_Lines.f k l) (linesErr l) := by
  unfold sidingref13_Lines.f linesErr
  by_cases h1 : 60 < l.length
  · rw [if_pos h1]
    exact Ev.pos (by omega) (Ev.step (fun k => by rw [sidingref13_Lines.j0]) (Ev.pos rfl (Ev.now _)))
  · rw [if_neg h1]
    refine Ev.neg (by omega) (Ev.bd (text_ev l hs (by omega)) ?_)
    have ht := textOf_length l
    refine Ev.step (fun k => by rw [sidingref13_Lines.j0]) ?_
    by_cases h2 : 2001 < bytesIn l + l.length
    · rw [if_pos h2]
      exact Ev.pos (decide_eq_true (by omega)) (Ev.now _)
    · rw [if_neg h2]
      refine Ev.neg (by simp; omega) ?_
      by_cases h3 : l.length = 0
      · rw [if_pos h3]
        exact Ev.pos (by omega) (Ev.now _)
      · rw [if_neg h3]
        refine Ev.neg (by omega) (Ev.bc (feed_ev l hs) ?_)
        by_cases h4 : l.any feedy = true
        · exact Ev.pos h4 (Ev.rt (if_pos h4).symm)
        · exact Ev.neg h4 (Ev.rt (if_neg h4).symm)

/-- A list of more than 200 lines, or with a line of more than 3,000 bytes among the first ones. -/
def longOf (l : List ByteArray) : Bool := (l.take 201).any (fun s => decide (3000 < s.size)) || decide (200 < l.length)
theorem long_loop (l : List ByteArray) (hl : l.length ≤ 9000000000000000000) : ∀ (d i : Nat), i + d = 201 → Ev (fun k => sidingref13_Long.l0 k l (i : Int)) (((l.take 201).drop i).any (fun s => decide (3000 < s.size)) || decide (200 < l.length)) := by
  intro d
  induction d with
  | zero =>
    intro i hi
    obtain rfl : i = 201 := by omega
    have e : (l.take 201).drop 201 = [] := List.drop_eq_nil_of_le (by rw [List.length_take]; omega)
    rw [e]
    refine Ev.step (fun k => by rw [sidingref13_Long.l0]) ?_
    by_cases h : 201 < l.length
    · refine Ev.pos (by omega) (Ev.step (fun k => by rw [sidingref13_Long.j1]) (Ev.neg (by decide) (Ev.rt ?_)))
      simp
      omega
    · refine Ev.neg (by omega) (Ev.step (fun k => by rw [sidingref13_Long.j1]) (Ev.neg (by decide) (Ev.rt ?_)))
      simp
      omega
  | succ d ih =>
    intro i hi
    refine Ev.step (fun k => by rw [sidingref13_Long.l0]) ?_
    by_cases h : i < l.length
    · have hlt : i < (l.take 201).length := by rw [List.length_take]; omega
      have e : (l.take 201).drop i = l[i] :: (l.take 201).drop (i + 1) := by rw [drop_at _ i hlt]; simp
      rw [e, List.any_cons]
      refine Ev.pos (by omega) (Ev.step (fun k => by rw [sidingref13_Long.j1]) (Ev.pos (by simp; omega) (Ev.pos (by omega) (Ev.pos (by omega) ?_))))
      rw [rdOf_at _ _ _ h, w64 (by omega)]
      by_cases h3 : 3000 < l[i].size
      · refine Ev.pos (by omega) (Ev.rt ?_)
        simp [h3]
      · refine Ev.neg (by omega) ?_
        have := ih (i + 1) (by omega)
        simpa [h3] using this
    · have e : (l.take 201).drop i = [] := List.drop_eq_nil_of_le (by rw [List.length_take]; omega)
      rw [e]
      refine Ev.neg (by omega) (Ev.step (fun k => by rw [sidingref13_Long.j1]) (Ev.neg (by decide) (Ev.rt ?_)))
      simp
      omega
theorem long_ev (l : List ByteArray) (hl : l.length ≤ 9000000000000000000) : Ev (fun k => sidingref13_Long.f k l) (longOf l) := by
  unfold sidingref13_Long.f
  have h := long_loop l hl 201 0 (by omega)
  simpa [longOf] using h
theorem longOf_false {l : List ByteArray} (h : longOf l = false) : l.length ≤ 200 ∧ ∀ s ∈ l, s.size ≤ 3000 := by
  unfold longOf at h
  rw [Bool.or_eq_false_iff] at h
  obtain ⟨h1, h2⟩ := h
  have hl : l.length ≤ 200 := by simpa using h2
  rw [List.take_of_length_le (by omega), List.any_eq_false] at h1
  exact ⟨hl, fun s hs => by simpa using h1 s hs⟩
theorem longOf_tiny {l : List ByteArray} (h : longOf l = false) : l.length ≤ 200 ∧ tiny l := ⟨(longOf_false h).1, fun s hs => by have := (longOf_false h).2 s hs; omega⟩

end Go.Proofs.Ytaifdgfegloafaa.Pr
