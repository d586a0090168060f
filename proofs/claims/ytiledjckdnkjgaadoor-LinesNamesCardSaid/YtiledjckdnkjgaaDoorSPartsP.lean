/- The plain side of Common and Replace: the program's. -/
import Derived.Test.YtiledjckdnkjgaaDoorSRef
import Derived.Test.YtiledjckdnkjgaaDoorConcat
import Derived.Test.YtiledjckdnkjgaaDoorF11
import Derived.Test.YtiledjckdnkjgaaDoorF13
namespace Go.Proofs.YtiledjckdnkjgaaDoor.Pr
open Go.RowKit Go.Proofs.YtiledjckdnkjgaaDoorW.PrintWords Go.Proofs.YtiledjckdnkjgaaDoorW.PrintLast Go.Proofs.YtiledjckdnkjgaaDoorW.PrintMore
set_option linter.unusedVariables false
set_option linter.unusedSimpArgs false

/-- How many elements the fronts have in common. -/
def cf : List ByteArray → List ByteArray → Nat
  | a :: l, b :: m => if a = b then cf l m + 1 else 0
  | _, _ => 0
theorem cf_le : ∀ (l m : List ByteArray), cf l m ≤ l.length ∧ cf l m ≤ m.length
  | [], m => by cases m <;> simp [cf]
  | a :: l, [] => by simp [cf]
  | a :: l, b :: m => by
    have h := cf_le l m
    simp only [cf]
    split
    · simp only [List.length_cons]
      omega
    · simp
theorem cf_step (a b : List ByteArray) (i : Nat) (h1 : i < a.length) (h2 : i < b.length) : cf (a.drop i) (b.drop i) = if a[i] = b[i] then cf (a.drop (i + 1)) (b.drop (i + 1)) + 1 else 0 := by
  rw [drop_at a i h1, drop_at b i h2]
  rfl
theorem cf_end (a b : List ByteArray) (i : Nat) (h : a.length ≤ i ∨ b.length ≤ i) : cf (a.drop i) (b.drop i) = 0 := by
  rcases h with h | h
  · rw [List.drop_eq_nil_of_le h]
    cases b.drop i <;> rfl
  · rw [List.drop_eq_nil_of_le h]
    cases a.drop i <;> rfl
/-- The back of what is left behind the front. -/
def cb (a b : List ByteArray) (n : Nat) : Nat := cf (a.drop n).reverse (b.drop n).reverse
/-- Common: the front, the back, the error. -/
def commonR (a b : List ByteArray) : Int × Int × Int :=
  if linesErr a = 0 then (if linesErr b = 0 then ((cf a b : Nat), (cb a b (cf a b) : Nat), 0) else (0, 0, linesErr b)) else (0, 0, linesErr a)

theorem common_back (a b : List ByteArray) (n : Nat) (hn : n ≤ a.length ∧ n ≤ b.length) (ha : a.length ≤ 60) (hb : b.length ≤ 60) : ∀ (d j : Nat), j + d = min a.length b.length - n →
    Ev (fun k => lines_Common.l1 k a b (n : Int) (j : Int) ((min a.length b.length : Nat) : Int)) (((n : Int), ((j + cf ((a.drop n).reverse.drop j) ((b.drop n).reverse.drop j) : Nat) : Int), (0 : Int)) : Int × Int × Int) := by
  intro d
  have hla : (a.drop n).reverse.length = a.length - n := by rw [List.length_reverse, List.length_drop]
  have hlb : (b.drop n).reverse.length = b.length - n := by rw [List.length_reverse, List.length_drop]
  induction d with
  | zero =>
    intro j hj
    refine Ev.step (fun k => by rw [lines_Common.l1]) ?_
    rw [w64 (x := ((min a.length b.length : Nat) : Int) - (n : Int)) (by omega)]
    refine Ev.neg (by omega) (Ev.rt ?_)
    rw [cf_end _ _ j (by rw [hla, hlb]; omega)]
    simp
  | succ d ih =>
    intro j hj
    have h1 : j < (a.drop n).reverse.length := by omega
    have h2 : j < (b.drop n).reverse.length := by omega
    have e1 : (a.drop n).reverse[j] = a[a.length - 1 - j] := by
      rw [List.getElem_reverse, List.getElem_drop]
      congr 1
      rw [List.length_drop]
      omega
    have e2 : (b.drop n).reverse[j] = b[b.length - 1 - j] := by
      rw [List.getElem_reverse, List.getElem_drop]
      congr 1
      rw [List.length_drop]
      omega
    refine Ev.step (fun k => by rw [lines_Common.l1]) ?_
    rw [w64 (x := ((min a.length b.length : Nat) : Int) - (n : Int)) (by omega), w64 (x := (a.length : Int) - 1) (by omega), w64 (x := (b.length : Int) - 1) (by omega), w64 (x := (a.length : Int) - 1 - (j : Int)) (by omega), w64 (x := (b.length : Int) - 1 - (j : Int)) (by omega), w64 (x := (j : Int) + 1) (by omega)]
    refine Ev.pos (by omega) (Ev.pos (by omega) (Ev.pos (by omega) (Ev.pos (by omega) (Ev.pos (by omega) ?_))))
    have c1 : (a.length : Int) - 1 - (j : Int) = ((a.length - 1 - j : Nat) : Int) := by omega
    have c2 : (b.length : Int) - 1 - (j : Int) = ((b.length - 1 - j : Nat) : Int) := by omega
    rw [c1, c2, rdOf_at _ a _ (by omega), rdOf_at _ b _ (by omega), cf_step _ _ j h1 h2, e1, e2]
    by_cases h : a[a.length - 1 - j] = b[b.length - 1 - j]
    · rw [if_pos h]
      refine Ev.pos (toList_inj.2 h) ?_
      have := ih (j + 1) (by omega)
      refine Ev.eq ?_ this
      congr 3
      omega
    · rw [if_neg h]
      exact Ev.neg (fun e => h (toList_inj.1 e)) (Ev.rt (by simp))

theorem common_front (a b : List ByteArray) (ha : a.length ≤ 60) (hb : b.length ≤ 60) : ∀ (d i : Nat), i + d = min a.length b.length →
    Ev (fun k => lines_Common.l0 k a b (i : Int) 0 ((min a.length b.length : Nat) : Int)) ((((i + cf (a.drop i) (b.drop i) : Nat) : Int), ((cb a b (i + cf (a.drop i) (b.drop i)) : Nat) : Int), (0 : Int)) : Int × Int × Int) := by
  have fin : ∀ i : Nat, i ≤ a.length ∧ i ≤ b.length → Ev (fun k => lines_Common.j1 k a b (i : Int) 0 ((min a.length b.length : Nat) : Int)) (((i : Int), ((cb a b i : Nat) : Int), (0 : Int)) : Int × Int × Int) := by
    intro i hi
    refine Ev.step (fun k => by rw [lines_Common.j1]) ?_
    have := common_back a b i hi ha hb (min a.length b.length - i) 0 (by omega)
    simpa [cb] using this
  intro d
  induction d with
  | zero =>
    intro i hi
    refine Ev.step (fun k => by rw [lines_Common.l0]) (Ev.neg (by omega) ?_)
    rw [cf_end a b i (by omega)]
    simpa using fin i (by omega)
  | succ d ih =>
    intro i hi
    have h1 : i < a.length := by omega
    have h2 : i < b.length := by omega
    refine Ev.step (fun k => by rw [lines_Common.l0]) (Ev.pos (by omega) (Ev.pos (by omega) (Ev.pos (by omega) (Ev.pos (by omega) ?_))))
    rw [rdOf_at _ a _ h1, rdOf_at _ b _ h2, w64 (by omega), cf_step a b i h1 h2]
    by_cases h : a[i] = b[i]
    · rw [if_pos h]
      refine Ev.pos (toList_inj.2 h) ?_
      have := ih (i + 1) (by omega)
      have e : i + (cf (a.drop (i + 1)) (b.drop (i + 1)) + 1) = i + 1 + cf (a.drop (i + 1)) (b.drop (i + 1)) := by omega
      rw [e]
      simpa using this
    · rw [if_neg h]
      refine Ev.neg (fun e => h (toList_inj.1 e)) ?_
      simpa using fin i (by omega)
theorem linesErr_len {l : List ByteArray} (h : linesErr l = 0) : l.length ≤ 60 := by
  unfold linesErr at h
  split at h
  · simp at h
  · omega
theorem common_ev (a b : List ByteArray) (ha : small a) (hb : small b) : Ev (fun k => lines_Common.f k a b) (commonR a b) := by
  unfold lines_Common.f commonR
  refine Ev.bd (check_ev a ha) ?_
  by_cases h1 : linesErr a = 0
  · rw [if_pos h1]
    refine Ev.pos h1 (Ev.bd (check_ev b hb) ?_)
    by_cases h2 : linesErr b = 0
    · rw [if_pos h2]
      refine Ev.pos h2 ?_
      rw [mn_eq]
      have := common_front a b (linesErr_len h1) (linesErr_len h2) (min a.length b.length) 0 (by omega)
      simpa using this
    · exact Ev.neg h2 (Ev.rt (if_neg h2).symm)
  · exact Ev.neg h1 (Ev.rt (if_neg h1).symm)

/-- Replace: the new list and the error. -/
def replaceR (l : List ByteArray) (p q : Int) (m : List ByteArray) : List ByteArray × Int :=
  if linesErr l = 0 then
    (if p < 0 ∨ p > q ∨ q > (l.length : Int) then ([], 2) else if m.any feedy = true then ([], 8)
     else if linesErr (l.take p.toNat ++ m ++ l.drop q.toNat) = 0 then (l.take p.toNat ++ m ++ l.drop q.toNat, 0) else ([], linesErr (l.take p.toNat ++ m ++ l.drop q.toNat)))
  else ([], linesErr l)
theorem replace_ev (l : List ByteArray) (p q : Int) (m : List ByteArray) (hl : small l) (hm : small m) (hml : m.length ≤ 1000000) : Ev (fun k => lines_Replace.f k l p q m) (replaceR l p q m) := by
  unfold lines_Replace.f replaceR
  refine Ev.bd (check_ev l hl) ?_
  by_cases h1 : linesErr l = 0
  · rw [if_pos h1]
    have g1 := linesErr_len h1
    have bad : (p < 0 ∨ p > q ∨ q > (l.length : Int)) → Ev (fun k => lines_Replace.j0 k l p q m true) (if p < 0 ∨ p > q ∨ q > (l.length : Int) then (([] : List ByteArray), (2 : Int)) else if m.any feedy = true then ([], 8)
     else if linesErr (l.take p.toNat ++ m ++ l.drop q.toNat) = 0 then (l.take p.toNat ++ m ++ l.drop q.toNat, 0) else ([], linesErr (l.take p.toNat ++ m ++ l.drop q.toNat))) := fun h => by
      exact Ev.step (fun k => by rw [lines_Replace.j0]) (Ev.pos rfl (Ev.rt (if_pos h).symm))
    refine Ev.pos h1 ?_
    by_cases h2 : p < 0
    · exact Ev.pos h2 (bad (.inl h2))
    · refine Ev.neg h2 ?_
      by_cases h3 : p > q
      · exact Ev.pos h3 (bad (.inr (.inl h3)))
      · refine Ev.neg h3 ?_
        by_cases h4 : q > (l.length : Int)
        · have e : decide (q > (l.length : Int)) = true := decide_eq_true h4
          rw [e]
          exact bad (.inr (.inr h4))
        · have e : decide (q > (l.length : Int)) = false := decide_eq_false h4
          rw [e, if_neg (show ¬ (p < 0 ∨ p > q ∨ q > (l.length : Int)) by omega)]
          refine Ev.step (fun k => by rw [lines_Replace.j0]) ?_
          refine Ev.neg (by decide) (Ev.bc (a := m.any feedy) rfl ?_)
          by_cases h5 : m.any feedy = true
          · exact Ev.pos h5 (Ev.rt (if_pos h5).symm)
          · rw [if_neg h5]
            refine Ev.neg h5 (Ev.pos (by omega) (Ev.pos (by omega) (Ev.pos (by omega) (Ev.pos (by omega) ?_))))
            have ef : ([l.take p.toNat, m, l.drop q.toNat] : List (List ByteArray)).flatten = l.take p.toNat ++ m ++ l.drop q.toNat := by simp
            have es : sumLen [l.take p.toNat, m, l.drop q.toNat] < 8796093022208 := by
              simp only [sumLen, List.map_cons, List.map_nil, List.sum_cons, List.sum_nil, List.length_take, List.length_drop]
              omega
            have hn : small (l.take p.toNat ++ m ++ l.drop q.toNat) := by
              intro s hs
              rcases List.mem_append.1 hs with hs | hs
              · rcases List.mem_append.1 hs with hs | hs
                · exact hl s (List.mem_of_mem_take hs)
                · exact hm s hs
              · exact hl s (List.mem_of_mem_drop hs)
            refine Ev.bc (a := l.take p.toNat ++ m ++ l.drop q.toNat) (by unfold slices_Concat.f; rw [if_pos es, ef]) (Ev.bd (check_ev _ hn) ?_)
            by_cases h6 : linesErr (l.take p.toNat ++ m ++ l.drop q.toNat) = 0
            · exact Ev.pos h6 (Ev.rt (if_pos h6).symm)
            · exact Ev.neg h6 (Ev.rt (if_neg h6).symm)
  · exact Ev.neg h1 (Ev.rt (if_neg h1).symm)

end Go.Proofs.YtiledjckdnkjgaaDoor.Pr
