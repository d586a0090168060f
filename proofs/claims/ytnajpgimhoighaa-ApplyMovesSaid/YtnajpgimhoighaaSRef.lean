/- The plain side of the reference of lines: its texts, its errors, and Long. -/
import Derived.Test.YtnajpgimhoighaaSFed
import Derived.Test.YtnajpgimhoighaaFeed
import Derived.Test.YtnajpgimhoighaaF31
import Derived.Test.YtnajpgimhoighaaF8
import Derived.Test.YtnajpgimhoighaaF17
namespace Go.Proofs.Ytnajpgimhoighaa.Pr
open Go.RowKit Go.Proofs.YtnajpgimhoighaaW.PrintWords Go.Proofs.YtnajpgimhoighaaW.PrintLast Go.Proofs.YtnajpgimhoighaaW.PrintMore
set_option linter.unusedVariables false
set_option linter.unusedSimpArgs false

theorem text_loop (l : List ByteArray) (hs : tiny l) (hl : l.length ≤ 100000) : ∀ (d i : Nat), i + d = l.length → Ev (fun k => sidingref13_Text.l0 k l (textOf (l.take i)) (i : Int)) (textOf l) := by
  intro d
  induction d with
  | zero =>
    intro i hi
    obtain rfl : i = l.length := by omega
    refine Ev.step (fun k => by rw [sidingref13_Text.l0]) (Ev.neg (by omega) ?_)
    rw [List.take_length]
    exact Ev.now _
  | succ d ih =>
    intro i hi
    have hlt : i < l.length := by omega
    have hb := bytesIn_tiny _ (hs.take (i + 1))
    have hb1 := bytesIn_take_succ l i hlt
    have hk : (l.take (i + 1)).length = i + 1 := by rw [List.length_take]; omega
    have hk' : (l.take i).length = i := by rw [List.length_take]; omega
    have ht := textOf_length (l.take i)
    refine Ev.step (fun k => by rw [sidingref13_Text.l0]) (Ev.pos (by omega) ?_)
    have h := ih (i + 1) (by omega)
    rw [textOf_take_succ l i hlt] at h
    rw [rdOf_at _ _ _ hlt, w64 (by omega)]
    by_cases h0 : i = 0
    · subst h0
      rw [if_pos rfl] at h
      refine Ev.neg (by omega) (Ev.pos (by omega) (Ev.pos (by omega) ?_))
      simpa [textOf, fed] using h
    · rw [if_neg h0] at h
      refine Ev.pos (by omega) (Ev.pos (by omega) (Ev.bs (Ev.pos (by omega) (Ev.pos ?_ ?_))))
      · rw [List.length_append, List.length_singleton]
        omega
      · simpa using h
theorem text_ev (l : List ByteArray) (hs : tiny l) (hl : l.length ≤ 100000) : Ev (fun k => sidingref13_Text.f k l) (textOf l) := by
  unfold sidingref13_Text.f
  have h := text_loop l hs hl l.length 0 (by omega)
  simpa [textOf, fed] using h
theorem feed_ev (l : List ByteArray) (hs : tiny l) : ref13_Feed.f l = some (l.any feedy) := by
  unfold ref13_Feed.f
  rw [if_pos]
  exact List.all_eq_true.2 fun s hm => decide_eq_true (by have := hs s hm; omega)
theorem rlines_ev (l : List ByteArray) (hs : tiny l) : Ev (fun k => sidingref13_Lines.f k l) (linesErr l) := by
  unfold sidingref13_Lines.f linesErr
  by_cases h1 : 60 < l.length
  · rw [if_pos h1]
    exact Ev.pos (by omega) (Ev.step (fun k => by rw [sidingref13_Lines.j0]) (Ev.pos rfl (Ev.now _)))
  · rw [if_neg h1]
    refine Ev.neg (by omega) (Ev.bd (text_ev l hs (by omega)) ?_)
    have ht := textOf_length l
    refine Ev.step (fun k => by rw [sidingref13_Lines.j0]) ?_
    by_cases h2 : 2001 < bytesIn l + l.length
    · rw [if_pos h2]
      exact Ev.pos (decide_eq_true (by omega)) (Ev.now _)
    · rw [if_neg h2]
      refine Ev.neg (by simp; omega) ?_
      by_cases h3 : l.length = 0
      · rw [if_pos h3]
        exact Ev.pos (by omega) (Ev.now _)
      · rw [if_neg h3]
        refine Ev.neg (by omega) (Ev.bc (feed_ev l hs) ?_)
        by_cases h4 : l.any feedy = true
        · exact Ev.pos h4 (Ev.rt (if_pos h4).symm)
        · exact Ev.neg h4 (Ev.rt (if_neg h4).symm)

/-- A list of more than 200 lines, or with a line of more than 3,000 bytes among the first ones. -/
def longOf (l : List ByteArray) : Bool := (l.take 201).any (fun s => decide (3000 < s.size)) || decide (200 < l.length)
theorem long_loop (l : List ByteArray) (hl : l.length ≤ 9000000000000000000) : ∀ (d i : Nat), i + d = 201 → Ev (fun k => sidingref13_Long.l0 k l (i : Int)) (((l.take 201).drop i).any (fun s => decide (3000 < s.size)) || decide (200 < l.length)) := by
  intro d
  induction d with
  | zero =>
    intro i hi
    obtain rfl : i = 201 := by omega
    have e : (l.take 201).drop 201 = [] := List.drop_eq_nil_of_le (by rw [List.length_take]; omega)
    rw [e]
    refine Ev.step (fun k => by rw [sidingref13_Long.l0]) ?_
    by_cases h : 201 < l.length
    · refine Ev.pos (by omega) (Ev.step (fun k => by rw [sidingref13_Long.j1]) (Ev.neg (by decide) (Ev.rt ?_)))
      simp
      omega
    · refine Ev.neg (by omega) (Ev.step (fun k => by rw [sidingref13_Long.j1]) (Ev.neg (by decide) (Ev.rt ?_)))
      simp
      omega
  | succ d ih =>
    intro i hi
    refine Ev.step (fun k => by rw [sidingref13_Long.l0]) ?_
    by_cases h : i < l.length
    · have hlt : i < (l.take 201).length := by rw [List.length_take]; omega
      have e : (l.take 201).drop i = l[i] :: (l.take 201).drop (i + 1) := by rw [drop_at _ i hlt]; simp
      rw [e, List.any_cons]
      refine Ev.pos (by omega) (Ev.step (fun k => by rw [sidingref13_Long.j1]) (Ev.pos (by simp; omega) (Ev.pos (by omega) (Ev.pos (by omega) ?_))))
      rw [rdOf_at _ _ _ h, w64 (by omega)]
      by_cases h3 : 3000 < l[i].size
      · refine Ev.pos (by omega) (Ev.rt ?_)
        simp [h3]
      · refine Ev.neg (by omega) ?_
        have := ih (i + 1) (by omega)
        simpa [h3] using this
    · have e : (l.take 201).drop i = [] := List.drop_eq_nil_of_le (by rw [List.length_take]; omega)
      rw [e]
      refine Ev.neg (by omega) (Ev.step (fun k => by rw [sidingref13_Long.j1]) (Ev.neg (by decide) (Ev.rt ?_)))
      simp
      omega
theorem long_ev (l : List ByteArray) (hl : l.length ≤ 9000000000000000000) : Ev (fun k => sidingref13_Long.f k l) (longOf l) := by
  unfold sidingref13_Long.f
  have h := long_loop l hl 201 0 (by omega)
  simpa [longOf] using h
theorem longOf_false {l : List ByteArray} (h : longOf l = false) : l.length ≤ 200 ∧ ∀ s ∈ l, s.size ≤ 3000 := by
  unfold longOf at h
  rw [Bool.or_eq_false_iff] at h
  obtain ⟨h1, h2⟩ := h
  have hl : l.length ≤ 200 := by simpa using h2
  rw [List.take_of_length_le (by omega), List.any_eq_false] at h1
  exact ⟨hl, fun s hs => by simpa using h1 s hs⟩
theorem longOf_tiny {l : List ByteArray} (h : longOf l = false) : l.length ≤ 200 ∧ tiny l := ⟨(longOf_false h).1, fun s hs => by have := (longOf_false h).2 s hs; omega⟩

theorem same_loop (a b : List ByteArray) (hl : a.length = b.length) (hb : a.length ≤ 9000000000000000000) : ∀ (d i : Nat), i + d = a.length → Ev (fun k => sidingref13_Same.l0 k a b (i : Int)) (decide (a.drop i = b.drop i)) := by
  intro d
  induction d with
  | zero =>
    intro i hi
    obtain rfl : i = a.length := by omega
    refine Ev.step (fun k => by rw [sidingref13_Same.l0]) (Ev.neg (by omega) (Ev.rt ?_))
    rw [List.drop_length, hl, List.drop_length]
    rfl
  | succ d ih =>
    intro i hi
    have h1 : i < a.length := by omega
    have h2 : i < b.length := by omega
    refine Ev.step (fun k => by rw [sidingref13_Same.l0]) (Ev.pos (by omega) (Ev.pos (by omega) (Ev.pos (by omega) ?_)))
    rw [rdOf_at _ _ _ h1, rdOf_at _ _ _ h2, w64 (by omega), drop_at a i h1, drop_at b i h2]
    by_cases h : a[i] = b[i]
    · refine Ev.pos (toList_inj.2 h) ?_
      refine Ev.eq ?_ (ih (i + 1) (by omega))
      rw [Bool.eq_iff_iff, decide_eq_true_iff, decide_eq_true_iff, h, List.cons.injEq]
      simp
    · refine Ev.neg (fun e => h (toList_inj.1 e)) (Ev.rt ?_)
      symm
      rw [decide_eq_false_iff_not, List.cons.injEq]
      exact fun e => h e.1
theorem same_ev (a b : List ByteArray) (hb : a.length ≤ 9000000000000000000) : Ev (fun k => sidingref13_Same.f k a b) (decide (a = b)) := by
  unfold sidingref13_Same.f
  by_cases h : a.length = b.length
  · refine Ev.pos (by omega) ?_
    have := same_loop a b h hb a.length 0 (by omega)
    simpa using this
  · refine Ev.neg (by omega) (Ev.rt ?_)
    symm
    rw [decide_eq_false_iff_not]
    intro e
    exact h (by rw [e])
end Go.Proofs.Ytnajpgimhoighaa.Pr
