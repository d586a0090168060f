/- Texts of lists of lines. -/
import Derived.Test.YtnajpgimhoighaaSLines
namespace Go.Proofs.Ytnajpgimhoighaa.Pr
open Go.RowKit Go.Proofs.YtnajpgimhoighaaW.PrintWords Go.Proofs.YtnajpgimhoighaaW.PrintLast Go.Proofs.YtnajpgimhoighaaW.PrintMore
set_option linter.unusedVariables false
set_option linter.unusedSimpArgs false

/-- Each string has at most 10^9 bytes. -/
def tiny (l : List ByteArray) : Prop := ∀ s ∈ l, s.size ≤ 1000000000
theorem tiny.small {l : List ByteArray} (h : tiny l) : small l := fun s hs => by have := h s hs; omega
theorem tiny.take {l : List ByteArray} (h : tiny l) (i : Nat) : tiny (l.take i) := fun s hs => h s (List.mem_of_mem_take hs)
theorem tiny.drop {l : List ByteArray} (h : tiny l) (i : Nat) : tiny (l.drop i) := fun s hs => h s (List.mem_of_mem_drop hs)
theorem tiny.append {l m : List ByteArray} (h : tiny l) (k : tiny m) : tiny (l ++ m) := fun s hs => (List.mem_append.1 hs).elim (h s) (k s)
theorem bytesIn_tiny (l : List ByteArray) (h : tiny l) : bytesIn l ≤ l.length * 1000000000 := by
  induction l with
  | nil => simp [bytesIn]
  | cons s l ih =>
    have h1 := h s (by simp)
    have h2 := ih (fun x hx => h x (by simp [hx]))
    simp only [bytesIn, List.map_cons, List.sum_cons, List.length_cons] at h2 ⊢
    omega
/-- The text of a list of lines. -/
def fed (l : List ByteArray) : List Int := (l.map fun s => 10 :: bytesOf s).flatten
def textOf (l : List ByteArray) : List Int := (fed l).drop 1
theorem fed_length (l : List ByteArray) : (fed l).length = bytesIn l + l.length := by
  induction l with
  | nil => rfl
  | cons s l ih =>
    have e : fed (s :: l) = (10 :: bytesOf s) ++ fed l := by simp [fed]
    rw [e, List.length_append, ih, List.length_cons, bytesOf_length]
    simp only [bytesIn, List.map_cons, List.sum_cons, List.length_cons]
    omega
theorem textOf_length (l : List ByteArray) : (textOf l).length = bytesIn l + l.length - 1 := by
  rw [textOf, List.length_drop, fed_length]
theorem fed_take_succ (l : List ByteArray) (i : Nat) (h : i < l.length) : fed (l.take (i + 1)) = fed (l.take i) ++ 10 :: bytesOf l[i] := by
  unfold fed
  rw [take_succ_at l i h, List.map_append, List.flatten_append]
  simp
theorem textOf_take_succ (l : List ByteArray) (i : Nat) (h : i < l.length) : textOf (l.take (i + 1)) = if i = 0 then bytesOf l[i] else textOf (l.take i) ++ 10 :: bytesOf l[i] := by
  unfold textOf
  rw [fed_take_succ l i h]
  by_cases h0 : i = 0
  · subst h0
    simp [fed]
  · rw [if_neg h0]
    have := fed_length (l.take i)
    have h1 : (l.take i).length = i := by rw [List.length_take]; omega
    rw [List.drop_append_of_le_length (by omega)]

end Go.Proofs.Ytnajpgimhoighaa.Pr
