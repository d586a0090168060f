/- The difference of two lists: what hunk.Diff computes; it is valid, fits, gives the other list, and its inverse gives the first one. -/
import Derived.Test.YtnajpgimhoighaaSLcs
import Derived.Test.YtnajpgimhoighaaSInv
import Derived.Test.YtnajpgimhoighaaF25
namespace Go.Proofs.Ytnajpgimhoighaa.Pr
open Go.RowKit Go.Proofs.YtnajpgimhoighaaW.PrintWords Go.Proofs.YtnajpgimhoighaaW.PrintLast Go.Proofs.YtnajpgimhoighaaW.PrintMore
set_option linter.unusedVariables false
set_option linter.unusedSimpArgs false

def pieceL (a b : List ByteArray) (i k p q : Nat) : List S46 := if i < p ∨ k < q then [⟨(i : Int), (a.take p).drop i, (b.take q).drop k⟩] else []
def diffL (a b : List ByteArray) : Nat → Nat → List (Nat × Nat) → List S46
 | i, k, [] => pieceL a b i k a.length b.length
 | i, k, p :: m => pieceL a b i k p.1 p.2 ++ diffL a b (p.1 + 1) (p.2 + 1) m
theorem rd_m (m : List S69) (i : Nat) (h : i < m.length) : rd_T69 m (i : Int) = m[i] := by simp [rd_T69, h]

/-- One step of the loop. -/
theorem diff_step (a b : List ByteArray) (ha : a.length ≤ 60) (hb : b.length ≤ 60) (M : List S69) (hM : M.length ≤ 1000) (out : List S46) (ho : out.length ≤ 1000) (i k j : Nat) (hj : j < M.length) (p q : Nat) (hpq : M[j] = prOf (p, q)) (h1 : i ≤ p) (h2 : k ≤ q) (h3 : p ≤ a.length) (h4 : q ≤ b.length) (r : List S46 × Int)
  (hr : Ev (fun n => hunk_Diff.l0 n a b (out ++ pieceL a b i k p q) ((p + 1 : Nat) : Int) ((q + 1 : Nat) : Int) M (M.length : Int) ((j + 1 : Nat) : Int)) r) :
  Ev (fun n => hunk_Diff.l0 n a b out (i : Int) (k : Int) M (M.length : Int) (j : Int)) r := by
 have n1 : slices_Clone.f ((a.take p).drop i) = some ((a.take p).drop i) := clone_val _ (by rw [List.length_drop, List.length_take]; omega)
 have n2 : slices_Clone.f ((b.take q).drop k) = some ((b.take q).drop k) := clone_val _ (by rw [List.length_drop, List.length_take]; omega)
 have E1 := Aside0.mk (show wrap64 ((p : Int) + 1) = ((p + 1 : Nat) : Int) by rw [w64 (by omega)]; omega)
 have E2 := Aside0.mk (show wrap64 ((q : Int) + 1) = ((q + 1 : Nat) : Int) by rw [w64 (by omega)]; omega)
 have E3 := Aside0.mk (show wrap64 ((j : Int) + 1) = ((j + 1 : Nat) : Int) by rw [w64 (by omega)]; omega)
 have make : (i < p ∨ k < q) → Ev (fun n => hunk_Diff.j1 n a b out (i : Int) (k : Int) M (M.length : Int) (j : Int) true (p : Int) (q : Int)) r := by
  intro hpc
  have hp : pieceL a b i k p q = [⟨(i : Int), (a.take p).drop i, (b.take q).drop k⟩] := if_pos hpc
  rw [hp] at hr
  refine Ev.step (fun n => by rw [hunk_Diff.j1]) ?_
  rw [E1.out, E2.out, E3.out]
  simp only [Int.toNat_natCast]
  rw [n1, n2]
  refine Ev.pos trivial ?_
  refine Ev.pos (by first | trivial | omega) ?_
  refine Ev.pos (by first | trivial | omega) ?_
  refine Ev.pos (by first | trivial | omega) ?_
  refine Ev.bs ?_
  refine Ev.pos (by first | trivial | omega) ?_
  refine Ev.pos (by first | trivial | omega) ?_
  refine Ev.pos (by first | trivial | omega) ?_
  refine Ev.bs ?_
  refine Ev.pos (by first | trivial | omega) ?_
  exact hr
 refine Ev.step (fun n => by rw [hunk_Diff.l0]) ?_
 refine Ev.pos (by omega) (Ev.pos (by omega) (Ev.pos (by omega) ?_))
 rw [rd_m _ _ hj, hpq]
 show Ev (fun n => if (p : Int) > (i : Int) then hunk_Diff.j1 n a b out (i : Int) (k : Int) M (M.length : Int) (j : Int) true (p : Int) (q : Int) else hunk_Diff.j1 n a b out (i : Int) (k : Int) M (M.length : Int) (j : Int) (decide ((q : Int) > (k : Int))) (p : Int) (q : Int)) r
 by_cases c1 : i < p
 ·exact Ev.pos (by omega) (make (.inl c1))
 ·refine Ev.neg (by omega) ?_
  by_cases c2 : k < q
  ·rw [decide_eq_true (show (q : Int) > (k : Int) by omega)]
   exact make (.inr c2)
  ·rw [decide_eq_false (show ¬ (q : Int) > (k : Int) by omega)]
   have hp : pieceL a b i k p q = [] := if_neg (by omega)
   rw [hp, List.append_nil] at hr
   refine Ev.step (fun n => by rw [hunk_Diff.j1]) ?_
   refine Ev.neg (by decide) ?_
   rw [E1.out, E2.out, E3.out]
   exact hr
theorem pieceL_len (a b : List ByteArray) (i k p q : Nat) : (pieceL a b i k p q).length ≤ 1 := by
 unfold pieceL
 split <;> simp
theorem diff_loop (a b : List ByteArray) (ha : a.length ≤ 60) (hb : b.length ≤ 60) (M : List S69) (hM : M.length ≤ 1000) : ∀ (m : List (Nat × Nat)) (i k j : Nat) (out : List S46), Match a b i k m → i ≤ a.length → k ≤ b.length → M.drop j = (m ++ [(a.length, b.length)]).map prOf → out.length ≤ j →
  Ev (fun n => hunk_Diff.l0 n a b out (i : Int) (k : Int) M (M.length : Int) (j : Int)) (out ++ diffL a b i k m, 0) := by
 intro m
 induction m with
 | nil =>
  intro i k j out hm hi hk hd ho
  have hj : j < M.length := by
   apply Classical.byContradiction
   intro hn
   rw [List.drop_eq_nil_of_le (by omega)] at hd
   cases hd
  have hpq : M[j] = prOf (a.length, b.length) := by
   rw [drop_at M j hj] at hd
   exact (List.cons.inj hd).1
  have hlast : M.length = j + 1 := by
   have := congrArg List.length hd
   rw [List.length_drop] at this
   simp at this
   omega
  refine diff_step a b ha hb M hM out (by omega) i k j hj a.length b.length hpq hi hk (Nat.le_refl _) (Nat.le_refl _) _ ?_
  refine Ev.step (fun n => by rw [hunk_Diff.l0]) ?_
  exact Ev.neg (by omega) (Ev.rt rfl)
 | cons p m ih =>
  intro i k j out hm hi hk hd ho
  cases hm with
  | cons _ _ _ _ h1 h2 h3 h4 he hm =>
   have hj : j < M.length := by
    apply Classical.byContradiction
    intro hn
    rw [List.drop_eq_nil_of_le (by omega)] at hd
    cases hd
   rw [drop_at M j hj] at hd
   have hpq : M[j] = prOf p := (List.cons.inj hd).1
   have hd' : M.drop (j + 1) = (m ++ [(a.length, b.length)]).map prOf := (List.cons.inj hd).2
   refine diff_step a b ha hb M hM out (by omega) i k j hj p.1 p.2 hpq h1 h2 (by omega) (by omega) _ ?_
   have hpl := pieceL_len a b i k p.1 p.2
   have := ih (p.1 + 1) (p.2 + 1) (j + 1) (out ++ pieceL a b i k p.1 p.2) hm (by omega) (by omega) hd' (by rw [List.length_append]; omega)
   rw [List.append_assoc] at this
   exact this
theorem diff_ev (a b : List ByteArray) (ha : small a) (hb : small b) : Ev (fun n => hunk_Diff.f n a b) (if bothErr a b = 0 then (diffL a b 0 0 (bestOf a b), (0 : Int)) else (([] : List S46), bothErr a b)) := by
 unfold hunk_Diff.f
 refine Ev.bd (best_ev a b ha hb) ?_
 by_cases h : bothErr a b = 0
 ·obtain ⟨h1, h2⟩ := bothErr_zero.1 h
  have l1 := linesErr_len h1
  have l2 := linesErr_len h2
  have hbl := bestOf_length a b
  have hl2 := lcsLen_le_left a b
  rw [if_pos h, if_pos h]
  refine Ev.pos rfl (Ev.pos (by simp; omega) (Ev.bs ?_))
  have e : (bestOf a b).map prOf ++ [(⟨(a.length : Int), (b.length : Int)⟩ : S69)] = (bestOf a b ++ [(a.length, b.length)]).map prOf := by simp [prOf]
  dsimp only
  rw [e]
  have := diff_loop a b l1 l2 ((bestOf a b ++ [(a.length, b.length)]).map prOf) (by simp; omega) (bestOf a b) 0 0 0 [] (bestOf_greedy a b).match (Nat.zero_le _) (Nat.zero_le _) rfl (by simp)
  simpa using this
 ·rw [if_neg h, if_neg h]
  exact Ev.neg h (Ev.now _)

/-! ### what a difference is like -/
theorem diff_count (a b : List ByteArray) : ∀ (m : List (Nat × Nat)) (i k : Nat), Match a b i k m → i ≤ a.length → k ≤ b.length → 3 * (diffL a b i k m).length ≤ (a.length - i) + (b.length - k) + 2
 | [], i, k, _, hi, hk => by
  unfold diffL pieceL
  split
  ·simp; omega
  ·simp
 | p :: m, i, k, hm, hi, hk => by
  cases hm with
  | cons _ _ _ _ h1 h2 h3 h4 he hm =>
   have ih := diff_count a b m (p.1 + 1) (p.2 + 1) hm (by omega) (by omega)
   unfold diffL
   rw [List.length_append]
   unfold pieceL
   split
   ·simp only [List.length_cons, List.length_nil]; omega
   ·simp only [List.length_nil]; omega
theorem le_sum : ∀ {l : List Nat} {x : Nat}, x ∈ l → x ≤ l.sum
 | [], _, h => by cases h
 | y :: l, x, h => by
  rw [List.sum_cons]
  rcases List.mem_cons.1 h with rfl | h
  ·omega
  ·have := le_sum h
   omega
theorem linesErr_plain {a : List ByteArray} (h : linesErr a = 0) : ∀ s ∈ a, widey s = false := by
 have h0 := h
 unfold linesErr at h
 split at h
 ·cases h
 ·split at h
  ·cases h
  ·rename_i h2
   split at h
   ·cases h
   ·split at h
    ·cases h
    ·rename_i h4
     intro s hs
     have hb : s.size ≤ bytesIn a := by
      unfold bytesIn
      have : s.size ∈ a.map (·.size) := List.mem_map.2 ⟨s, hs, rfl⟩
      exact le_sum this
     have hl : 0 < a.length := List.length_pos_of_mem hs
     unfold widey
     rw [Bool.or_eq_false_iff]
     refine ⟨by simp; omega, ?_⟩
     have h5 : a.any feedy = false := by simpa using h4
     rw [List.any_eq_false] at h5
     simpa using h5 s hs
theorem plain_seg {a : List ByteArray} (h : linesErr a = 0) (i p : Nat) : plainL ((a.take p).drop i) = true := by
 unfold plainL
 rw [Bool.and_eq_true, decide_eq_true_eq]
 refine ⟨by rw [List.length_drop, List.length_take]; have := linesErr_len h; omega, ?_⟩
 simp only [Bool.not_eq_true', List.any_eq_false]
 intro s hs
 rw [linesErr_plain h s (List.mem_of_mem_take (List.mem_of_mem_drop hs))]
 decide
theorem piece_valid {a b : List ByteArray} (ha : linesErr a = 0) (hb : linesErr b = 0) {i k p q : Nat} (h1 : i ≤ p) (h2 : k ≤ q) (h3 : p ≤ a.length) (h4 : q ≤ b.length) (h : i < p ∨ k < q) : validH (⟨(i : Int), (a.take p).drop i, (b.take q).drop k⟩ : S46) = true := by
 have l1 := linesErr_len ha
 have l2 := linesErr_len hb
 simp only [validH, Bool.and_eq_true, decide_eq_true_eq]
 refine ⟨⟨⟨⟨by omega, by omega⟩, plain_seg ha _ _⟩, plain_seg hb _ _⟩, ?_⟩
 rw [List.length_drop, List.length_take, List.length_drop, List.length_take]
 omega
theorem diff_chk {a b : List ByteArray} (ha : linesErr a = 0) (hb : linesErr b = 0) : ∀ (m : List (Nat × Nat)) (i k : Nat) (free : Int), Match a b i k m → i ≤ a.length → k ≤ b.length → free ≤ (i : Int) → chkFrom free (diffL a b i k m) = 0
 | [], i, k, free, _, hi, hk, hf => by
  unfold diffL pieceL
  split
  ·rename_i h
   unfold chkFrom
   rw [if_pos (piece_valid ha hb hi hk (Nat.le_refl _) (Nat.le_refl _) h), if_neg (by show ¬ ((i : Int) < free); omega)]
   rfl
  ·rfl
 | p :: m, i, k, free, hm, hi, hk, hf => by
  cases hm with
  | cons _ _ _ _ h1 h2 h3 h4 he hm =>
   unfold diffL pieceL
   split
   ·rename_i h
    rw [List.singleton_append]
    unfold chkFrom
    rw [if_pos (piece_valid ha hb h1 h2 (by omega) (by omega) h), if_neg (by show ¬ ((i : Int) < free); omega)]
    refine diff_chk ha hb m (p.1 + 1) (p.2 + 1) _ hm (by omega) (by omega) ?_
    show (i : Int) + (((a.take p.1).drop i).length : Int) + 1 ≤ _
    rw [List.length_drop, List.length_take]
    omega
   ·rw [List.nil_append]
    exact diff_chk ha hb m (p.1 + 1) (p.2 + 1) _ hm (by omega) (by omega) (by omega)
theorem diff_check {a b : List ByteArray} (h : bothErr a b = 0) : checkL (diffL a b 0 0 (bestOf a b)) = 0 := by
 obtain ⟨h1, h2⟩ := bothErr_zero.1 h
 have l1 := linesErr_len h1
 have l2 := linesErr_len h2
 have hm := (bestOf_greedy a b).match
 have hc := diff_count a b _ 0 0 hm (Nat.zero_le _) (Nat.zero_le _)
 unfold checkL
 rw [if_neg (by omega)]
 exact diff_chk h1 h2 _ 0 0 0 hm (Nat.zero_le _) (Nat.zero_le _) (by simp)
theorem piece_fits {a b : List ByteArray} {i k p q : Nat} (h1 : i ≤ p) (h3 : p ≤ a.length) : fitsAt a (⟨(i : Int), (a.take p).drop i, (b.take q).drop k⟩ : S46) = true := by
 have hl : ((a.take p).drop i).length = p - i := by rw [List.length_drop, List.length_take]; omega
 unfold fitsAt
 rw [Bool.and_eq_true, decide_eq_true_eq, decide_eq_true_eq]
 dsimp only
 rw [hl]
 refine ⟨by omega, ?_⟩
 rw [show ((i : Int) + ((p - i : Nat) : Int)).toNat = p by omega, Int.toNat_natCast]
theorem diff_fits (a b : List ByteArray) : ∀ (m : List (Nat × Nat)) (i k : Nat), Match a b i k m → i ≤ a.length → fitsL a (diffL a b i k m) = true
 | [], i, k, _, hi => by
  unfold diffL pieceL fitsL
  split
  ·simp only [List.all_cons, List.all_nil, Bool.and_true]
   exact piece_fits hi (Nat.le_refl _)
  ·rfl
 | p :: m, i, k, hm, hi => by
  cases hm with
  | cons _ _ _ _ h1 h2 h3 h4 he hm =>
   have ih := diff_fits a b m (p.1 + 1) (p.2 + 1) hm (by omega)
   unfold fitsL at ih ⊢
   unfold diffL pieceL
   rw [List.all_append, ih, Bool.and_true]
   split
   ·simp only [List.all_cons, List.all_nil, Bool.and_true]
    exact piece_fits h1 (by omega)
   ·rfl
theorem seg_join (a : List ByteArray) {x y z : Nat} (hxy : x ≤ y) (hyz : y ≤ z) : (a.take y).drop x ++ (a.take z).drop y = (a.take z).drop x := by
 rw [List.drop_take, List.drop_take, List.drop_take]
 rw [show z - x = (y - x) + (z - y) by omega, List.take_add]
 congr 1
 rw [List.drop_drop]
 congr 2
 omega
theorem seg_end (a : List ByteArray) {x y : Nat} (hxy : x ≤ y) : (a.take y).drop x ++ a.drop y = a.drop x := by
 rw [List.drop_take]
 have : a.drop y = (a.drop x).drop (y - x) := by rw [List.drop_drop]; congr 1; omega
 rw [this, List.take_append_drop]
theorem diff_put (a b : List ByteArray) : ∀ (m : List (Nat × Nat)) (i k at_ : Nat), Match a b i k m → i ≤ a.length → k ≤ b.length → at_ ≤ i → putL a at_ (diffL a b i k m) ((diffL a b i k m).map (·.f0)) = (a.take i).drop at_ ++ b.drop k
 | [], i, k, at_, _, hi, hk, hat => by
  unfold diffL pieceL
  split
  ·have hl : ((a.take a.length).drop i).length = a.length - i := by rw [List.length_drop, List.length_take]; omega
   show (a.take (i : Int).toNat).drop at_ ++ (b.take b.length).drop k ++ putL a ((i : Int).toNat + ((a.take a.length).drop i).length) [] [] = _
   have e0 : a.drop (i + (a.length - i)) = [] := List.drop_eq_nil_of_le (by omega)
   rw [Int.toNat_natCast, hl, List.take_length]
   unfold putL
   rw [e0, List.append_nil]
  ·rename_i h
   obtain rfl : i = a.length := by omega
   obtain rfl : k = b.length := by omega
   unfold putL
   simp
 | p :: m, i, k, at_, hm, hi, hk, hat => by
  cases hm with
  | cons _ _ _ _ h1 h2 h3 h4 he hm =>
   have hb : b.drop p.2 = b[p.2] :: b.drop (p.2 + 1) := drop_at b p.2 h4
   have ha : ∀ x, x ≤ p.1 → (a.take (p.1 + 1)).drop x = (a.take p.1).drop x ++ [a[p.1]] := fun x hx => by
    rw [take_succ_at a p.1 h3, List.drop_append_of_le_length (by rw [List.length_take]; omega)]
   unfold diffL pieceL
   split
   ·have hl : ((a.take p.1).drop i).length = p.1 - i := by rw [List.length_drop, List.length_take]; omega
    rw [List.singleton_append, List.map_cons]
    show (a.take (i : Int).toNat).drop at_ ++ (b.take p.2).drop k ++ putL a ((i : Int).toNat + ((a.take p.1).drop i).length) (diffL a b (p.1 + 1) (p.2 + 1) m) _ = _
    rw [Int.toNat_natCast, hl, show i + (p.1 - i) = p.1 by omega, diff_put a b m (p.1 + 1) (p.2 + 1) p.1 hm (by omega) (by omega) (by omega)]
    have e0 : (a.take p.1).drop p.1 = [] := List.drop_eq_nil_of_le (by rw [List.length_take]; omega)
    rw [ha p.1 (Nat.le_refl _), e0, List.nil_append, he, List.singleton_append, ← hb, List.append_assoc, seg_end b h2]
   ·rename_i h
    obtain rfl : i = p.1 := by omega
    obtain rfl : k = p.2 := by omega
    rw [List.nil_append, diff_put a b m (p.1 + 1) (p.2 + 1) at_ hm (by omega) (by omega) (by omega), ha at_ hat, he, List.append_assoc, List.singleton_append, ← hb]
theorem diff_appl (a b : List ByteArray) : applL a (diffL a b 0 0 (bestOf a b)) = b := by
 have := diff_put a b (bestOf a b) 0 0 0 (bestOf_greedy a b).match (Nat.zero_le _) (Nat.zero_le _) (Nat.le_refl _)
 unfold applL
 rw [this]
 simp
theorem diffL_nil (a b : List ByteArray) (i k : Nat) : diffL a b i k [] = pieceL a b i k a.length b.length := rfl
theorem diffL_cons (a b : List ByteArray) (i k : Nat) (p : Nat × Nat) (m : List (Nat × Nat)) : diffL a b i k (p :: m) = pieceL a b i k p.1 p.2 ++ diffL a b (p.1 + 1) (p.2 + 1) m := rfl
theorem pieceL_pos {a b : List ByteArray} {i k p q : Nat} (h : i < p ∨ k < q) : pieceL a b i k p q = [⟨(i : Int), (a.take p).drop i, (b.take q).drop k⟩] := if_pos h
theorem pieceL_neg {a b : List ByteArray} {i k p q : Nat} (h : ¬ (i < p ∨ k < q)) : pieceL a b i k p q = [] := if_neg h
theorem inv_cons {more : Int} {h : S46} {l : List S46} (h6 : h.f0 + more ≤ 60) : invFrom more (h :: l) = (invFrom (more + growth h) l).map (⟨h.f0 + more, h.f2, h.f1⟩ :: ·) := by
 rw [show invFrom more (h :: l) = if 60 < h.f0 + more then none else (invFrom (more + growth h) l).map (⟨h.f0 + more, h.f2, h.f1⟩ :: ·) from rfl, if_neg (by omega)]
theorem diff_inv {a b : List ByteArray} (hb : b.length ≤ 60) : ∀ (m : List (Nat × Nat)) (i k : Nat), Match a b i k m → i ≤ a.length → k ≤ b.length → invFrom ((k : Int) - (i : Int)) (diffL a b i k m) = some (diffL b a k i (m.map fun p => (p.2, p.1)))
 | [], i, k, _, hi, hk => by
  rw [List.map_nil, diffL_nil, diffL_nil]
  by_cases h : i < a.length ∨ k < b.length
  ·rw [pieceL_pos h, pieceL_pos (Or.comm.1 h), inv_cons (by show (i : Int) + ((k : Int) - (i : Int)) ≤ 60; omega)]
   show some [(⟨(i : Int) + ((k : Int) - (i : Int)), _, _⟩ : S46)] = _
   rw [show (i : Int) + ((k : Int) - (i : Int)) = (k : Int) by omega]
  ·rw [pieceL_neg h, pieceL_neg (fun hh => h (Or.comm.1 hh))]
   rfl
 | p :: m, i, k, hm, hi, hk => by
  cases hm with
  | cons _ _ _ _ h1 h2 h3 h4 he hm =>
   have ih := diff_inv hb m (p.1 + 1) (p.2 + 1) hm (by omega) (by omega)
   rw [List.map_cons, diffL_cons, diffL_cons]
   by_cases h : i < p.1 ∨ k < p.2
   ·have e : (k : Int) - (i : Int) + growth (⟨(i : Int), (a.take p.1).drop i, (b.take p.2).drop k⟩ : S46) = ((p.2 + 1 : Nat) : Int) - ((p.1 + 1 : Nat) : Int) := by
     unfold growth
     dsimp only
     rw [List.length_drop, List.length_take, List.length_drop, List.length_take]
     omega
    rw [pieceL_pos h, pieceL_pos (Or.comm.1 h), List.singleton_append, List.singleton_append, inv_cons (by show (i : Int) + ((k : Int) - (i : Int)) ≤ 60; omega), e, ih]
    show some ((⟨(i : Int) + ((k : Int) - (i : Int)), _, _⟩ : S46) :: _) = _
    rw [show (i : Int) + ((k : Int) - (i : Int)) = (k : Int) by omega]
   ·rw [pieceL_neg h, pieceL_neg (fun hh => h (Or.comm.1 hh)), List.nil_append, List.nil_append]
    have e : (k : Int) - (i : Int) = ((p.2 + 1 : Nat) : Int) - ((p.1 + 1 : Nat) : Int) := by omega
    rw [e]
    exact ih
theorem diff_invert {a b : List ByteArray} (h : bothErr a b = 0) : ∃ r, invFrom 0 (diffL a b 0 0 (bestOf a b)) = some r := by
 obtain ⟨h1, h2⟩ := bothErr_zero.1 h
 have := diff_inv (linesErr_len h2) (bestOf a b) 0 0 (bestOf_greedy a b).match (Nat.zero_le _) (Nat.zero_le _)
 exact ⟨_, by simpa using this⟩
end Go.Proofs.Ytnajpgimhoighaa.Pr
