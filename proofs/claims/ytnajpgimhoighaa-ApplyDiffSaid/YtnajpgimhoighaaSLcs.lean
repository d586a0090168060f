/- The plain side of package lcs: the table, the next pair, the best matching, lengths and distances. -/
import Derived.Test.YtnajpgimhoighaaTLcs
import Derived.Test.YtnajpgimhoighaaJoin
import Derived.Test.YtnajpgimhoighaaSRef
import Derived.Test.YtnajpgimhoighaaF37
namespace Go.Proofs.Ytnajpgimhoighaa.Pr
open Go.RowKit Go.Proofs.YtnajpgimhoighaaW.PrintWords Go.Proofs.YtnajpgimhoighaaW.PrintLast Go.Proofs.YtnajpgimhoighaaW.PrintMore
set_option linter.unusedVariables false
set_option linter.unusedSimpArgs false

/-- The error of two lists. -/
def bothErr (a b : List ByteArray) : Int := if linesErr a = 0 then linesErr b else linesErr a
theorem bothErr_zero {a b : List ByteArray} : bothErr a b = 0 ↔ linesErr a = 0 ∧ linesErr b = 0 := by
 unfold bothErr
 split
 ·rename_i h
  simp [h]
 ·rename_i h
  simp [h]
theorem lcheck_val (a b : List ByteArray) (ha : small a) (hb : small b) : lcs_check.f a b = some (bothErr a b) := by
 unfold lcs_check.f bothErr
 rw [join_val a ha, join_val b hb]
 by_cases h1 : linesErr a = 0
 ·rw [if_pos h1, if_pos h1]
  by_cases h2 : linesErr b = 0
  ·simp [h2]
  ·simp [h2]
 ·rw [if_neg h1, if_neg h1]
  simp [h1]

/-! ### The table -/
/-- A table by a function of its indices. -/
def tab (n m : Nat) (f : Nat → Nat → Int) : List (List Int) := (List.range n).map fun i => (List.range m).map fun k => f i k
theorem tab_length (n m : Nat) (f : Nat → Nat → Int) : (tab n m f).length = n := by simp [tab]
theorem tab_row (n m : Nat) (f : Nat → Nat → Int) (i : Nat) (h : i < n) : rd_Li64 (tab n m f) (i : Int) = (List.range m).map fun k => f i k := by
 simp [rd_Li64, tab, h]
theorem tab_row_length (n m : Nat) (f : Nat → Nat → Int) (i : Nat) (h : i < n) : (rd_Li64 (tab n m f) (i : Int)).length = m := by
 rw [tab_row n m f i h]
 simp
theorem tab_at (n m : Nat) (f : Nat → Nat → Int) (i k : Nat) (h : i < n) (h2 : k < m) : rd (rd_Li64 (tab n m f) (i : Int)) (k : Int) = f i k := by
 rw [tab_row n m f i h, rd_at _ k (by simpa using h2)]
 simp
theorem tab_congr (n m : Nat) {f g : Nat → Nat → Int} (h : ∀ i, i < n → ∀ k, k < m → f i k = g i k) : tab n m f = tab n m g := by
 unfold tab
 apply List.map_congr_left
 intro i hi
 apply List.map_congr_left
 intro k hk
 exact h i (List.mem_range.1 hi) k (List.mem_range.1 hk)
theorem range_map_set {β : Type} (m : Nat) (f : Nat → β) (k : Nat) (v : β) : ((List.range m).map f).set k v = (List.range m).map fun j => if j = k then v else f j := by
 apply List.ext_getElem
 ·simp
 ·intro j h1 h2
  have hj : j < m := by simpa using h1
  rw [List.getElem_set]
  simp only [List.getElem_map, List.getElem_range]
  by_cases e : k = j
  ·subst e
   simp
  ·rw [if_neg e, if_neg (fun h => e h.symm)]
theorem tab_set (n m : Nat) (f : Nat → Nat → Int) (i k : Nat) (h : i < n) (v : Int) : (tab n m f).set i ((rd_Li64 (tab n m f) (i : Int)).set k v) = tab n m fun j l => if j = i ∧ l = k then v else f j l := by
 rw [tab_row n m f i h, range_map_set]
 unfold tab
 rw [range_map_set]
 apply List.map_congr_left
 intro j hj
 by_cases e : j = i
 ·subst e
  simp
 ·simp [e]

/-- What is filled in row i from k on, and below. -/
def fillF (a b : List ByteArray) (i k j m : Nat) : Int := if i < j ∨ (i = j ∧ k ≤ m) then (LL a b j m : Int) else 0
theorem fill_row (a b : List ByteArray) (i : Nat) : fillF a b i 0 = fillF a b (i - 1 + 1) 0 ∨ i = 0 := by
 rcases Nat.eq_zero_or_pos i with h | h
 ·exact .inr h
 ·left
  rw [show i - 1 + 1 = i by omega]
theorem fill_end (a b : List ByteArray) (i : Nat) : fillF a b i b.length = fillF a b (i + 1) 0 := by
 funext j m
 unfold fillF
 by_cases h : i < j
 ·rw [if_pos (.inl h), if_pos]
  omega
 ·by_cases h2 : i = j ∧ b.length ≤ m
  ·rw [if_pos (.inr h2), if_neg (by omega), LL_end_right a b j m h2.2]
   rfl
  ·rw [if_neg (by omega), if_neg (by omega)]

theorem table_l2 (a b : List ByteArray) (ha : a.length ≤ 60) (hb : b.length ≤ 60) (i : Nat) (hi : i < a.length) (r : List (List Int))
  (hnext : Ev (fun k => lcs_table.l1 k a b (tab (a.length + 1) (b.length + 1) (fillF a b i 0)) ((i : Int) - 1)) r) : ∀ k, k ≤ b.length →
  Ev (fun n => lcs_table.l2 n a b (tab (a.length + 1) (b.length + 1) (fillF a b i k)) (i : Int) ((k : Int) - 1)) r := by
 intro k
 induction k with
 | zero =>
  intro _
  refine Ev.step (fun n => by rw [lcs_table.l2]) ?_
  refine Ev.neg (by omega) ?_
  rw [w64 (by omega)]
  exact hnext
 | succ k ih =>
  intro hk
  have h2 : k < b.length := by omega
  have e0 : ((k + 1 : Nat) : Int) - 1 = (k : Int) := by omega
  rw [e0]
  have hT := tab_length (a.length + 1) (b.length + 1) (fillF a b i (k + 1))
  have hr1 := tab_row_length (a.length + 1) (b.length + 1) (fillF a b i (k + 1)) (i + 1) (by omega)
  have hr0 := tab_row_length (a.length + 1) (b.length + 1) (fillF a b i (k + 1)) i (by omega)
  have ci : ((i : Int) + 1) = ((i + 1 : Nat) : Int) := by omega
  have ck : ((k : Int) + 1) = ((k + 1 : Nat) : Int) := by omega
  have hb1 := lcsLen_le_left (a.drop (i + 1)) (b.drop (k + 1))
  rw [List.length_drop] at hb1
  have hs := LL_step a b i k hi h2
  refine Ev.step (fun n => by rw [lcs_table.l2]) ?_
  rw [w64 (x := (i : Int) + 1) (by omega), w64 (x := (k : Int) + 1) (by omega), w64 (x := (k : Int) - 1) (by omega), rdOf_at _ a i hi, rdOf_at _ b k h2, ci, ck]
  refine Ev.pos (by omega) (Ev.pos (by omega) (Ev.pos (by omega) (Ev.pos (by omega) (Ev.pos (by omega) ?_))))
  rw [hT, hr1, hr0, tab_at _ _ _ _ _ (by omega) (by omega), tab_at _ _ _ _ _ (by omega) (by omega), tab_at _ _ _ _ _ (by omega) (by omega), Int.toNat_natCast, Int.toNat_natCast, tab_set _ _ _ _ _ (by omega), tab_set _ _ _ _ _ (by omega)]
  by_cases h : a[i] = b[k]
  ·refine Ev.pos (toList_inj.2 h) (Ev.pos (by omega) (Ev.pos (by omega) (Ev.pos (by omega) (Ev.pos (by omega) (Ev.pos (by omega) (Ev.pos (by omega) ?_))))))
   rw [if_pos h] at hs
   have hv : fillF a b i (k + 1) (i + 1) (k + 1) = (LL a b (i + 1) (k + 1) : Int) := by
    unfold fillF
    rw [if_pos (.inl (Nat.lt_succ_self i))]
   rw [hv, w64 (by unfold LL; omega)]
   have e : (tab (a.length + 1) (b.length + 1) fun j l => if j = i ∧ l = k then 1 + (LL a b (i + 1) (k + 1) : Int) else fillF a b i (k + 1) j l) = tab (a.length + 1) (b.length + 1) (fillF a b i k) := by
    apply tab_congr
    intro j hj l hl
    by_cases c : j = i ∧ l = k
    ·obtain ⟨rfl, rfl⟩ := c
     rw [if_pos ⟨rfl, rfl⟩]
     unfold fillF
     rw [if_pos (.inr ⟨rfl, Nat.le_refl _⟩), hs]
     omega
    ·rw [if_neg c]
     unfold fillF
     by_cases c2 : i < j ∨ (i = j ∧ k + 1 ≤ l)
     ·rw [if_pos c2, if_pos (by omega)]
     ·rw [if_neg c2, if_neg (by omega)]
   rw [e]
   exact ih (by omega)
  ·refine Ev.neg (fun e => h (toList_inj.1 e)) (Ev.pos (by omega) (Ev.pos (by omega) (Ev.pos (by omega) (Ev.pos (by omega) (Ev.pos (by omega) (Ev.pos (by omega) (Ev.pos (by omega) ?_)))))))
   rw [if_neg h] at hs
   have hv : fillF a b i (k + 1) (i + 1) k = (LL a b (i + 1) k : Int) := by
    unfold fillF
    rw [if_pos (.inl (Nat.lt_succ_self i))]
   have hv2 : fillF a b i (k + 1) i (k + 1) = (LL a b i (k + 1) : Int) := by
    unfold fillF
    rw [if_pos (.inr ⟨rfl, Nat.le_refl _⟩)]
   rw [hv, hv2, mx_eq]
   have e : (tab (a.length + 1) (b.length + 1) fun j l => if j = i ∧ l = k then ((max (LL a b (i + 1) k) (LL a b i (k + 1)) : Nat) : Int) else fillF a b i (k + 1) j l) = tab (a.length + 1) (b.length + 1) (fillF a b i k) := by
    apply tab_congr
    intro j hj l hl
    by_cases c : j = i ∧ l = k
    ·obtain ⟨rfl, rfl⟩ := c
     rw [if_pos ⟨rfl, rfl⟩]
     unfold fillF
     rw [if_pos (.inr ⟨rfl, Nat.le_refl _⟩), hs]
    ·rw [if_neg c]
     unfold fillF
     by_cases c2 : i < j ∨ (i = j ∧ k + 1 ≤ l)
     ·rw [if_pos c2, if_pos (by omega)]
     ·rw [if_neg c2, if_neg (by omega)]
   rw [e]
   exact ih (by omega)
/-- The whole table. -/
def tableOf (a b : List ByteArray) : List (List Int) := tab (a.length + 1) (b.length + 1) fun i k => (LL a b i k : Int)
theorem fill_all (a b : List ByteArray) : tab (a.length + 1) (b.length + 1) (fillF a b 0 0) = tableOf a b := by
 apply tab_congr
 intro i _ k _
 unfold fillF
 rw [if_pos (by omega)]
theorem table_l1 (a b : List ByteArray) (ha : a.length ≤ 60) (hb : b.length ≤ 60) : ∀ n, n ≤ a.length → Ev (fun k => lcs_table.l1 k a b (tab (a.length + 1) (b.length + 1) (fillF a b n 0)) ((n : Int) - 1)) (tableOf a b) := by
 intro n
 induction n with
 | zero =>
  intro _
  refine Ev.step (fun k => by rw [lcs_table.l1]) ?_
  exact Ev.neg (by omega) (Ev.rt (fill_all a b))
 | succ n ih =>
  intro hn
  have e0 : ((n + 1 : Nat) : Int) - 1 = (n : Int) := by omega
  rw [e0]
  refine Ev.step (fun k => by rw [lcs_table.l1]) ?_
  refine Ev.pos (by omega) ?_
  rw [w64 (by omega), ← fill_end a b n]
  exact table_l2 a b ha hb n (by omega) (tableOf a b) (ih (by omega)) b.length (Nat.le_refl _)
theorem table_l0 (a b : List ByteArray) (ha : a.length ≤ 60) (hb : b.length ≤ 60) : ∀ (d i : Nat), i + d = a.length + 1 →
  Ev (fun k => lcs_table.l0 k a b (List.replicate i (List.replicate (b.length + 1) 0) ++ List.replicate d []) ((a.length + 1 : Nat) : Int) (i : Int)) (tableOf a b) := by
 intro d
 induction d with
 | zero =>
  intro i hi
  obtain rfl : i = a.length + 1 := by omega
  refine Ev.step (fun k => by rw [lcs_table.l0]) ?_
  refine Ev.neg (by omega) ?_
  rw [w64 (by omega)]
  have e : (List.replicate (a.length + 1) (List.replicate (b.length + 1) (0 : Int)) ++ List.replicate 0 []) = tab (a.length + 1) (b.length + 1) (fillF a b a.length 0) := by
   have z : tab (a.length + 1) (b.length + 1) (fillF a b a.length 0) = tab (a.length + 1) (b.length + 1) (fun _ _ => 0) := by
    apply tab_congr
    intro j hj l hl
    unfold fillF
    split
    ·rw [LL_end_left a b j l (by omega)]
     rfl
    ·rfl
   rw [z, List.replicate_zero, List.append_nil]
   show _ = (List.range (a.length + 1)).map (fun _ => (List.range (b.length + 1)).map (fun _ => (0 : Int)))
   rw [List.map_const', List.map_const', List.length_range, List.length_range]
  rw [e]
  exact table_l1 a b ha hb a.length (Nat.le_refl _)
 | succ d ih =>
  intro i hi
  refine Ev.step (fun k => by rw [lcs_table.l0]) ?_
  rw [w64 (x := (b.length : Int) + 1) (by omega), w64 (x := (i : Int) + 1) (by omega)]
  have hl : (List.replicate i (List.replicate (b.length + 1) (0 : Int)) ++ List.replicate (d + 1) []).length = a.length + 1 := by simp; omega
  rw [hl]
  refine Ev.pos (by omega) (Ev.pos (by omega) (Ev.pos (by omega) (Ev.pos (by omega) (Ev.pos (by omega) ?_))))
  have e1 : ((b.length : Int) + 1).toNat = b.length + 1 := by omega
  rw [e1, Int.toNat_natCast]
  have e : (List.replicate i (List.replicate (b.length + 1) (0 : Int)) ++ List.replicate (d + 1) []).set i (List.replicate (b.length + 1) 0) = List.replicate (i + 1) (List.replicate (b.length + 1) (0 : Int)) ++ List.replicate d [] := by
   generalize List.replicate (b.length + 1) (0 : Int) = z
   rw [List.set_append_right _ _ (by simp), List.length_replicate, Nat.sub_self, List.replicate_succ (n := d), List.set_cons_zero, List.replicate_succ' (n := i), List.append_assoc]
   rfl
  rw [e]
  have := ih (i + 1) (by omega)
  simpa using this
theorem table_ev (a b : List ByteArray) (ha : a.length ≤ 60) (hb : b.length ≤ 60) : Ev (fun k => lcs_table.f k a b) (tableOf a b) := by
 unfold lcs_table.f
 rw [w64 (x := (a.length : Int) + 1) (by omega)]
 have e1 : ((a.length : Int) + 1).toNat = a.length + 1 := by omega
 rw [e1]
 refine Ev.pos (by omega) (Ev.pos (by omega) (Ev.bs ?_))
 have := table_l0 a b ha hb (a.length + 1) 0 (by omega)
 rw [List.length_replicate]
 simpa using this
theorem tableOf_at (a b : List ByteArray) (i k : Nat) (h : i ≤ a.length) (h2 : k ≤ b.length) : rd (rd_Li64 (tableOf a b) (i : Int)) (k : Int) = (LL a b i k : Int) := tab_at _ _ _ i k (by omega) (by omega)
theorem tableOf_row (a b : List ByteArray) (i : Nat) (h : i ≤ a.length) : (rd_Li64 (tableOf a b) (i : Int)).length = b.length + 1 := tab_row_length _ _ _ i (by omega)
theorem tableOf_length (a b : List ByteArray) : (tableOf a b).length = a.length + 1 := tab_length _ _ _

/-! ### The next pair -/
theorem next_l1 (a b : List ByteArray) (ha : a.length ≤ 60) (hb : b.length ≤ 60) (i0 k0 : Nat) (hp : 0 < LL a b i0 k0) (p : Nat × Nat) (hf : First a b i0 k0 p) : ∀ (n i k : Nat), i0 ≤ i → i ≤ p.1 → k0 ≤ k → k ≤ b.length → (i = p.1 → k ≤ p.2) → (p.1 - i) * 1000 + (b.length - k) = n →
  Ev (fun m => lcs_next.l1 m a b (tableOf a b) (i : Int) (k0 : Int) (LL a b i0 k0 : Int) (k : Int)) ((p.1 : Int), (p.2 : Int)) := by
 obtain ⟨⟨g1, g2, g3, g4, g5, g6⟩, hmin⟩ := hf
 have hle := lcsLen_le_left (a.drop i0) (b.drop k0)
 rw [List.length_drop] at hle
 have hle' : LL a b i0 k0 ≤ 60 := by unfold LL; omega
 intro n
 induction n using Nat.strongRecOn with
 | _ n ih =>
  intro i k hi hip hk hkb hpk hn
  refine Ev.step (fun m => by rw [lcs_next.l1]) ?_
  by_cases hlt : k < b.length
  ·have hia : i < a.length := by omega
   have hnext : ∀ (hne : ¬ (i = p.1 ∧ k = p.2)), Ev (fun m => lcs_next.l1 m a b (tableOf a b) (i : Int) (k0 : Int) (LL a b i0 k0 : Int) (((k + 1 : Nat)) : Int)) ((p.1 : Int), (p.2 : Int)) := fun hne => ih ((p.1 - i) * 1000 + (b.length - (k + 1))) (by omega) i (k + 1) hi hip (by omega) (by omega) (by omega) rfl
   have ci : ((i : Int) + 1) = ((i + 1 : Nat) : Int) := by omega
   have ck : ((k : Int) + 1) = ((k + 1 : Nat) : Int) := by omega
   rw [w64 (x := (i : Int) + 1) (by omega), w64 (x := (k : Int) + 1) (by omega), w64 (x := (LL a b i0 k0 : Int) - 1) (by omega), rdOf_at _ a i hia, rdOf_at _ b k hlt, ci, ck, tableOf_length, tableOf_row a b (i + 1) (by omega), tableOf_at a b (i + 1) (k + 1) (by omega) (by omega)]
   refine Ev.pos (by omega) (Ev.pos (by omega) (Ev.pos (by omega) (Ev.pos (by omega) ?_)))
   by_cases he : a[i] = b[k]
   ·refine Ev.pos (toList_inj.2 he) (Ev.pos (by omega) (Ev.pos (by omega) (Ev.pos (by omega) (Ev.pos (by omega) ?_))))
    by_cases hw : LL a b (i + 1) (k + 1) + 1 = LL a b i0 k0
    ·have hg : Good a b i0 k0 i k := ⟨hi, hk, hia, hlt, he, hw⟩
     have := hmin (i, k) hg
     simp only [lexLt] at this
     have e1 : i = p.1 := by omega
     have e2 : k = p.2 := by omega
     refine Ev.pos (by omega) (Ev.rt ?_)
     rw [e1, e2]
    ·refine Ev.neg (by omega) (hnext ?_)
     rintro ⟨rfl, rfl⟩
     exact hw g6
   ·refine Ev.neg (fun e => he (toList_inj.1 e)) (hnext ?_)
    rintro ⟨rfl, rfl⟩
    exact he g5
  ·refine Ev.neg (by omega) ?_
   have hne : i ≠ p.1 := fun e => by have := hpk e; omega
   rw [w64 (by omega)]
   have ci : ((i : Int) + 1) = ((i + 1 : Nat) : Int) := by omega
   rw [ci]
   refine Ev.step (fun m => by rw [lcs_next.l0]) ?_
   exact ih ((p.1 - (i + 1)) * 1000 + (b.length - k0)) (by omega) (i + 1) k0 (by omega) (by omega) (Nat.le_refl _) (by omega) (fun e => g2) rfl
theorem next_ev (a b : List ByteArray) (ha : a.length ≤ 60) (hb : b.length ≤ 60) (i k : Nat) (hi : i ≤ a.length) (hk : k ≤ b.length) (p : Nat × Nat) (hf : First a b i k p) : Ev (fun m => lcs_next.f m a b (tableOf a b) (i : Int) (k : Int)) ((p.1 : Int), (p.2 : Int)) := by
 unfold lcs_next.f
 rw [tableOf_length, tableOf_row a b i hi, tableOf_at a b i k hi hk]
 refine Ev.pos (by omega) (Ev.pos (by omega) (Ev.pos (by omega) (Ev.pos (by omega) ?_)))
 refine Ev.step (fun m => by rw [lcs_next.l0]) ?_
 have h1 := hf.1.1
 have h2 := hf.1.2.1
 exact next_l1 a b ha hb i k hf.pos p hf _ i k (Nat.le_refl _) h1 (Nat.le_refl _) hk (fun _ => h2) rfl

/-! ### The best matching -/
/-- A pair as the program has it. -/
def prOf (p : Nat × Nat) : S69 := ⟨(p.1 : Int), (p.2 : Int)⟩
theorem best_l0 (a b : List ByteArray) (ha : a.length ≤ 60) (hb : b.length ≤ 60) : ∀ (m : List (Nat × Nat)) (i k : Nat), Greedy a b i k m → i ≤ a.length → k ≤ b.length → ∀ acc : List S69, acc.length + m.length ≤ 100 →
  Ev (fun n => lcs_Best.l0 n a b (tableOf a b) acc (i : Int) (k : Int)) (acc ++ m.map prOf, (0 : Int)) := by
 intro m
 induction m with
 | nil =>
  intro i k hg hi hk acc _
  have h0 : LL a b i k = 0 := by
   cases hg with
   | nil _ _ h => exact h
  refine Ev.step (fun n => by rw [lcs_Best.l0]) ?_
  rw [tableOf_length, tableOf_row a b i hi, tableOf_at a b i k hi hk, h0]
  refine Ev.pos (by omega) (Ev.pos (by omega) (Ev.pos (by omega) (Ev.pos (by omega) (Ev.neg (by decide) (Ev.rt ?_)))))
  simp
 | cons p m ih =>
  intro i k hg hi hk acc hl
  cases hg with
  | cons _ _ _ _ hf hm =>
   obtain ⟨g1, g2, g3, g4, g5, g6⟩ := hf.1
   have hp := hf.pos
   refine Ev.step (fun n => by rw [lcs_Best.l0]) ?_
   rw [tableOf_length, tableOf_row a b i hi, tableOf_at a b i k hi hk]
   refine Ev.pos (by omega) (Ev.pos (by omega) (Ev.pos (by omega) (Ev.pos (by omega) (Ev.pos (by omega) (Ev.bd (next_ev a b ha hb i k hi hk p hf) (Ev.pos (by simp only [List.length_cons] at hl; omega) ?_))))))
   rw [w64 (x := (p.1 : Int) + 1) (by omega), w64 (x := (p.2 : Int) + 1) (by omega)]
   have := ih (p.1 + 1) (p.2 + 1) hm (by omega) (by omega) (acc ++ [prOf p]) (by simp only [List.length_append, List.length_cons, List.length_nil] at hl ⊢; omega)
   simpa [prOf] using this
/-- The best matching of two lists. -/
noncomputable def bestOf (a b : List ByteArray) : List (Nat × Nat) := Classical.choose (Greedy.ex a b _ 0 0 rfl)
theorem bestOf_greedy (a b : List ByteArray) : Greedy a b 0 0 (bestOf a b) := (Classical.choose_spec (Greedy.ex a b _ 0 0 rfl)).1
theorem bestOf_length (a b : List ByteArray) : (bestOf a b).length = lcsLen a b := by
 have := (bestOf_greedy a b).length
 simpa [LL] using this
theorem best_ev (a b : List ByteArray) (ha : small a) (hb : small b) : Ev (fun n => lcs_Best.f n a b) (if bothErr a b = 0 then ((bestOf a b).map prOf, (0 : Int)) else (([] : List S69), bothErr a b)) := by
 unfold lcs_Best.f
 refine Ev.bc (lcheck_val a b ha hb) ?_
 by_cases h : bothErr a b = 0
 ·rw [if_pos h]
  obtain ⟨h1, h2⟩ := bothErr_zero.1 h
  obtain ⟨l1, _⟩ := linesErr_zero h1
  obtain ⟨l2, _⟩ := linesErr_zero h2
  refine Ev.pos h (Ev.bd (table_ev a b l1 l2) ?_)
  have hl := bestOf_length a b
  have hl2 := lcsLen_le_left a b
  have := best_l0 a b l1 l2 (bestOf a b) 0 0 (bestOf_greedy a b) (Nat.zero_le _) (Nat.zero_le _) [] (by simp only [List.length_nil]; omega)
  simpa using this
 ·exact Ev.neg h (Ev.rt (if_neg h).symm)
end Go.Proofs.Ytnajpgimhoighaa.Pr
