/- Part 20 of the proof of HunkWide: texts put together. -/
import Derived.Test.YtognfinkolpemaaDoorJHunkWide1
import Derived.Test.YtognfinkolpemaaDoorJHunkWide6
import Derived.Test.YtognfinkolpemaaDoorJHunkWide7
import Derived.Test.YtognfinkolpemaaDoorJHunkWide11
import Derived.Test.YtognfinkolpemaaDoorJHunkWide12
import Derived.Test.YtognfinkolpemaaDoorJHunkWide17
import Derived.Test.YtognfinkolpemaaDoorJHunkWide18
import Derived.Test.YtognfinkolpemaaDoorJHunkWide19
import Derived.Deep.Slices
import Derived.ChangeSame
import Derived.SizedLaws
set_option linter.unusedVariables false
set_option linter.unusedSimpArgs false
section
namespace Go.Proofs.YtognfinkolpemaaDoor.Pr
open Go.RowKit Go.Proofs.YtognfinkolpemaaDoorW.PrintWords Go.Proofs.YtognfinkolpemaaDoorW.PrintLast Go.Proofs.YtognfinkolpemaaDoorW.PrintMore
theorem linesErr_len {a : List ByteArray} (h : linesErr a = 0) : a.length ≤ 60 := by
 unfold linesErr at h
 split at h
 ·cases h
 ·omega
theorem clone_val (l : List ByteArray) (h : l.length ≤ 1000000) : slices_Clone.f l = some l := by
 unfold slices_Clone.f
 rw [if_pos (by omega)]
theorem rd_m (m : List S49) (i : Nat) (h : i < m.length) : rd_T49 m (i : Int) = m[i] := by simp [rd_T49, h]
theorem diff_step (a b : List ByteArray) (ha : a.length ≤ 60) (hb : b.length ≤ 60) (M : List S49) (hM : M.length ≤ 1000) (out : List S36) (ho : out.length ≤ 1000) (i k j : Nat) (hj : j < M.length) (p q : Nat) (hpq : M[j] = prOf (p, q)) (h1 : i ≤ p) (h2 : k ≤ q) (h3 : p ≤ a.length) (h4 : q ≤ b.length) (r : List S36 × Int)
  (hr : Ev (fun n => hunk_Diff.l0 n a b (out ++ pieceL a b i k p q) ((p + 1 : Nat) : Int) ((q + 1 : Nat) : Int) M (M.length : Int) ((j + 1 : Nat) : Int)) r) :
  Ev (fun n => hunk_Diff.l0 n a b out (i : Int) (k : Int) M (M.length : Int) (j : Int)) r := by
 have n1 : slices_Clone.f ((a.take p).drop i) = some ((a.take p).drop i) := clone_val _ (by rw [List.length_drop, List.length_take]; omega)
 have n2 : slices_Clone.f ((b.take q).drop k) = some ((b.take q).drop k) := clone_val _ (by rw [List.length_drop, List.length_take]; omega)
 have E1 := Aside0.mk (show wrap64 ((p : Int) + 1) = ((p + 1 : Nat) : Int) by rw [w64 (by omega)]; omega)
 have E2 := Aside0.mk (show wrap64 ((q : Int) + 1) = ((q + 1 : Nat) : Int) by rw [w64 (by omega)]; omega)
 have E3 := Aside0.mk (show wrap64 ((j : Int) + 1) = ((j + 1 : Nat) : Int) by rw [w64 (by omega)]; omega)
 have make : (i < p ∨ k < q) → Ev (fun n => hunk_Diff.j1 n a b out (i : Int) (k : Int) M (M.length : Int) (j : Int) true (p : Int) (q : Int)) r := by
  intro hpc
  have hp : pieceL a b i k p q = [⟨(i : Int), (a.take p).drop i, (b.take q).drop k⟩] := if_pos hpc
  rw [hp] at hr
  refine Ev.step (fun n => by rw [hunk_Diff.j1]) ?_
  rw [E1.out, E2.out, E3.out]
  simp only [Int.toNat_natCast]
  rw [n1, n2]
  refine Ev.pos trivial ?_
  refine Ev.pos (by first | trivial | omega) ?_
  refine Ev.pos (by first | trivial | omega) ?_
  refine Ev.pos (by first | trivial | omega) ?_
  refine Ev.bs ?_
  refine Ev.pos (by first | trivial | omega) ?_
  refine Ev.pos (by first | trivial | omega) ?_
  refine Ev.pos (by first | trivial | omega) ?_
  refine Ev.bs ?_
  refine Ev.pos (by first | trivial | omega) ?_
  exact hr
 refine Ev.step (fun n => by rw [hunk_Diff.l0]) ?_
 refine Ev.pos (by omega) (Ev.pos (by omega) (Ev.pos (by omega) ?_))
 rw [rd_m _ _ hj, hpq]
 show Ev (fun n => if (p : Int) > (i : Int) then hunk_Diff.j1 n a b out (i : Int) (k : Int) M (M.length : Int) (j : Int) true (p : Int) (q : Int) else hunk_Diff.j1 n a b out (i : Int) (k : Int) M (M.length : Int) (j : Int) (decide ((q : Int) > (k : Int))) (p : Int) (q : Int)) r
 by_cases c1 : i < p
 ·exact Ev.pos (by omega) (make (.inl c1))
 ·refine Ev.neg (by omega) ?_
  by_cases c2 : k < q
  ·rw [decide_eq_true (show (q : Int) > (k : Int) by omega)]
   exact make (.inr c2)
  ·rw [decide_eq_false (show ¬ (q : Int) > (k : Int) by omega)]
   have hp : pieceL a b i k p q = [] := if_neg (by omega)
   rw [hp, List.append_nil] at hr
   refine Ev.step (fun n => by rw [hunk_Diff.j1]) ?_
   refine Ev.neg (by decide) ?_
   rw [E1.out, E2.out, E3.out]
   exact hr
theorem pieceL_len (a b : List ByteArray) (i k p q : Nat) : (pieceL a b i k p q).length ≤ 1 := by
 unfold pieceL
 split <;> simp
theorem diff_loop (a b : List ByteArray) (ha : a.length ≤ 60) (hb : b.length ≤ 60) (M : List S49) (hM : M.length ≤ 1000) : ∀ (m : List (Nat × Nat)) (i k j : Nat) (out : List S36), Match a b i k m → i ≤ a.length → k ≤ b.length → M.drop j = (m ++ [(a.length, b.length)]).map prOf → out.length ≤ j →
  Ev (fun n => hunk_Diff.l0 n a b out (i : Int) (k : Int) M (M.length : Int) (j : Int)) (out ++ diffL a b i k m, 0) := by
 intro m
 induction m with
 | nil =>
  intro i k j out hm hi hk hd ho
  have hj : j < M.length := by
   apply Classical.byContradiction
   intro hn
   rw [List.drop_eq_nil_of_le (by omega)] at hd
   cases hd
  have hpq : M[j] = prOf (a.length, b.length) := by
   rw [drop_at M j hj] at hd
   exact (List.cons.inj hd).1
  have hlast : M.length = j + 1 := by
   have := congrArg List.length hd
   rw [List.length_drop] at this
   simp at this
   omega
  refine diff_step a b ha hb M hM out (by omega) i k j hj a.length b.length hpq hi hk (Nat.le_refl _) (Nat.le_refl _) _ ?_
  refine Ev.step (fun n => by rw [hunk_Diff.l0]) ?_
  exact Ev.neg (by omega) (Ev.rt rfl)
 | cons p m ih =>
  intro i k j out hm hi hk hd ho
  cases hm with
  | cons _ _ _ _ h1 h2 h3 h4 he hm =>
   have hj : j < M.length := by
    apply Classical.byContradiction
    intro hn
    rw [List.drop_eq_nil_of_le (by omega)] at hd
    cases hd
   rw [drop_at M j hj] at hd
   have hpq : M[j] = prOf p := (List.cons.inj hd).1
   have hd' : M.drop (j + 1) = (m ++ [(a.length, b.length)]).map prOf := (List.cons.inj hd).2
   refine diff_step a b ha hb M hM out (by omega) i k j hj p.1 p.2 hpq h1 h2 (by omega) (by omega) _ ?_
   have hpl := pieceL_len a b i k p.1 p.2
   have := ih (p.1 + 1) (p.2 + 1) (j + 1) (out ++ pieceL a b i k p.1 p.2) hm (by omega) (by omega) hd' (by rw [List.length_append]; omega)
   rw [List.append_assoc] at this
   exact this
theorem diff_ev (a b : List ByteArray) (ha : small a) (hb : small b) : Ev (fun n => hunk_Diff.f n a b) (if bothErr a b = 0 then (diffL a b 0 0 (bestOf a b), (0 : Int)) else (([] : List S36), bothErr a b)) := by
 unfold hunk_Diff.f
 refine Ev.bd (best_ev a b ha hb) ?_
 by_cases h : bothErr a b = 0
 ·obtain ⟨h1, h2⟩ := bothErr_zero.1 h
  have l1 := linesErr_len h1
  have l2 := linesErr_len h2
  have hbl := bestOf_length a b
  have hl2 := lcsLen_le_left a b
  rw [if_pos h, if_pos h]
  refine Ev.pos rfl (Ev.pos (by simp; omega) (Ev.bs ?_))
  have e : (bestOf a b).map prOf ++ [(⟨(a.length : Int), (b.length : Int)⟩ : S49)] = (bestOf a b ++ [(a.length, b.length)]).map prOf := by simp [prOf]
  dsimp only
  rw [e]
  have := diff_loop a b l1 l2 ((bestOf a b ++ [(a.length, b.length)]).map prOf) (by simp; omega) (bestOf a b) 0 0 0 [] (bestOf_greedy a b).match (Nat.zero_le _) (Nat.zero_le _) rfl (by simp)
  simpa using this
 ·rw [if_neg h, if_neg h]
  exact Ev.neg h (Ev.now _)
theorem diff_count (a b : List ByteArray) : ∀ (m : List (Nat × Nat)) (i k : Nat), Match a b i k m → i ≤ a.length → k ≤ b.length → 3 * (diffL a b i k m).length ≤ (a.length - i) + (b.length - k) + 2
 | [], i, k, _, hi, hk => by
  unfold diffL pieceL
  split
  ·simp; omega
  ·simp
 | p :: m, i, k, hm, hi, hk => by
  cases hm with
  | cons _ _ _ _ h1 h2 h3 h4 he hm =>
   have ih := diff_count a b m (p.1 + 1) (p.2 + 1) hm (by omega) (by omega)
   unfold diffL
   rw [List.length_append]
   unfold pieceL
   split
   ·simp only [List.length_cons, List.length_nil]; omega
   ·simp only [List.length_nil]; omega
theorem le_sum : ∀ {l : List Nat} {x : Nat}, x ∈ l → x ≤ l.sum
 | [], _, h => by cases h
 | y :: l, x, h => by
  rw [List.sum_cons]
  rcases List.mem_cons.1 h with rfl | h
  ·omega
  ·have := le_sum h
   omega
theorem linesErr_plain {a : List ByteArray} (h : linesErr a = 0) : ∀ s ∈ a, widey s = false := by
 have h0 := h
 unfold linesErr at h
 split at h
 ·cases h
 ·split at h
  ·cases h
  ·rename_i h2
   split at h
   ·cases h
   ·split at h
    ·cases h
    ·rename_i h4
     intro s hs
     have hb : s.size ≤ bytesIn a := by
      unfold bytesIn
      have : s.size ∈ a.map (·.size) := List.mem_map.2 ⟨s, hs, rfl⟩
      exact le_sum this
     have hl : 0 < a.length := List.length_pos_of_mem hs
     unfold widey
     rw [Bool.or_eq_false_iff]
     refine ⟨by simp; omega, ?_⟩
     have h5 : a.any feedy = false := by simpa using h4
     rw [List.any_eq_false] at h5
     simpa using h5 s hs
theorem plain_seg {a : List ByteArray} (h : linesErr a = 0) (i p : Nat) : plainL ((a.take p).drop i) = true := by
 unfold plainL
 rw [Bool.and_eq_true, decide_eq_true_eq]
 refine ⟨by rw [List.length_drop, List.length_take]; have := linesErr_len h; omega, ?_⟩
 simp only [Bool.not_eq_true', List.any_eq_false]
 intro s hs
 rw [linesErr_plain h s (List.mem_of_mem_take (List.mem_of_mem_drop hs))]
 decide
theorem piece_valid {a b : List ByteArray} (ha : linesErr a = 0) (hb : linesErr b = 0) {i k p q : Nat} (h1 : i ≤ p) (h2 : k ≤ q) (h3 : p ≤ a.length) (h4 : q ≤ b.length) (h : i < p ∨ k < q) : validH (⟨(i : Int), (a.take p).drop i, (b.take q).drop k⟩ : S36) = true := by
 have l1 := linesErr_len ha
 have l2 := linesErr_len hb
 simp only [validH, Bool.and_eq_true, decide_eq_true_eq]
 refine ⟨⟨⟨⟨by omega, by omega⟩, plain_seg ha _ _⟩, plain_seg hb _ _⟩, ?_⟩
 rw [List.length_drop, List.length_take, List.length_drop, List.length_take]
 omega
theorem diff_chk {a b : List ByteArray} (ha : linesErr a = 0) (hb : linesErr b = 0) : ∀ (m : List (Nat × Nat)) (i k : Nat) (free : Int), Match a b i k m → i ≤ a.length → k ≤ b.length → free ≤ (i : Int) → chkFrom free (diffL a b i k m) = 0
 | [], i, k, free, _, hi, hk, hf => by
  unfold diffL pieceL
  split
  ·rename_i h
   unfold chkFrom
   rw [if_pos (piece_valid ha hb hi hk (Nat.le_refl _) (Nat.le_refl _) h), if_neg (by show ¬ ((i : Int) < free); omega)]
   rfl
  ·rfl
 | p :: m, i, k, free, hm, hi, hk, hf => by
  cases hm with
  | cons _ _ _ _ h1 h2 h3 h4 he hm =>
   unfold diffL pieceL
   split
   ·rename_i h
    rw [List.singleton_append]
    unfold chkFrom
    rw [if_pos (piece_valid ha hb h1 h2 (by omega) (by omega) h), if_neg (by show ¬ ((i : Int) < free); omega)]
    refine diff_chk ha hb m (p.1 + 1) (p.2 + 1) _ hm (by omega) (by omega) ?_
    show (i : Int) + (((a.take p.1).drop i).length : Int) + 1 ≤ _
    rw [List.length_drop, List.length_take]
    omega
   ·rw [List.nil_append]
    exact diff_chk ha hb m (p.1 + 1) (p.2 + 1) _ hm (by omega) (by omega) (by omega)
theorem diff_check {a b : List ByteArray} (h : bothErr a b = 0) : checkL (diffL a b 0 0 (bestOf a b)) = 0 := by
 obtain ⟨h1, h2⟩ := bothErr_zero.1 h
 have l1 := linesErr_len h1
 have l2 := linesErr_len h2
 have hm := (bestOf_greedy a b).match
 have hc := diff_count a b _ 0 0 hm (Nat.zero_le _) (Nat.zero_le _)
 unfold checkL
 rw [if_neg (by omega)]
 exact diff_chk h1 h2 _ 0 0 0 hm (Nat.zero_le _) (Nat.zero_le _) (by simp)
theorem piece_fits {a b : List ByteArray} {i k p q : Nat} (h1 : i ≤ p) (h3 : p ≤ a.length) : fitsAt a (⟨(i : Int), (a.take p).drop i, (b.take q).drop k⟩ : S36) = true := by
 have hl : ((a.take p).drop i).length = p - i := by rw [List.length_drop, List.length_take]; omega
 unfold fitsAt
 rw [Bool.and_eq_true, decide_eq_true_eq, decide_eq_true_eq]
 dsimp only
 rw [hl]
 refine ⟨by omega, ?_⟩
 rw [show ((i : Int) + ((p - i : Nat) : Int)).toNat = p by omega, Int.toNat_natCast]
theorem diff_fits (a b : List ByteArray) : ∀ (m : List (Nat × Nat)) (i k : Nat), Match a b i k m → i ≤ a.length → fitsL a (diffL a b i k m) = true
 | [], i, k, _, hi => by
  unfold diffL pieceL fitsL
  split
  ·simp only [List.all_cons, List.all_nil, Bool.and_true]
   exact piece_fits hi (Nat.le_refl _)
  ·rfl
 | p :: m, i, k, hm, hi => by
  cases hm with
  | cons _ _ _ _ h1 h2 h3 h4 he hm =>
   have ih := diff_fits a b m (p.1 + 1) (p.2 + 1) hm (by omega)
   unfold fitsL at ih ⊢
   unfold diffL pieceL
   rw [List.all_append, ih, Bool.and_true]
   split
   ·simp only [List.all_cons, List.all_nil, Bool.and_true]
    exact piece_fits h1 (by omega)
   ·rfl
theorem seg_end (a : List ByteArray) {x y : Nat} (hxy : x ≤ y) : (a.take y).drop x ++ a.drop y = a.drop x := by
 rw [List.drop_take]
 have : a.drop y = (a.drop x).drop (y - x) := by rw [List.drop_drop]; congr 1; omega
 rw [this, List.take_append_drop]
theorem diff_put (a b : List ByteArray) : ∀ (m : List (Nat × Nat)) (i k at_ : Nat), Match a b i k m → i ≤ a.length → k ≤ b.length → at_ ≤ i → putL a at_ (diffL a b i k m) ((diffL a b i k m).map (·.f0)) = (a.take i).drop at_ ++ b.drop k
 | [], i, k, at_, _, hi, hk, hat => by
  unfold diffL pieceL
  split
  ·have hl : ((a.take a.length).drop i).length = a.length - i := by rw [List.length_drop, List.length_take]; omega
   show (a.take (i : Int).toNat).drop at_ ++ (b.take b.length).drop k ++ putL a ((i : Int).toNat + ((a.take a.length).drop i).length) [] [] = _
   have e0 : a.drop (i + (a.length - i)) = [] := List.drop_eq_nil_of_le (by omega)
   rw [Int.toNat_natCast, hl, List.take_length]
   unfold putL
   rw [e0, List.append_nil]
  ·rename_i h
   obtain rfl : i = a.length := by omega
   obtain rfl : k = b.length := by omega
   unfold putL
   simp
 | p :: m, i, k, at_, hm, hi, hk, hat => by
  cases hm with
  | cons _ _ _ _ h1 h2 h3 h4 he hm =>
   have hb : b.drop p.2 = b[p.2] :: b.drop (p.2 + 1) := drop_at b p.2 h4
   have ha : ∀ x, x ≤ p.1 → (a.take (p.1 + 1)).drop x = (a.take p.1).drop x ++ [a[p.1]] := fun x hx => by
    rw [take_succ_at a p.1 h3, List.drop_append_of_le_length (by rw [List.length_take]; omega)]
   unfold diffL pieceL
   split
   ·have hl : ((a.take p.1).drop i).length = p.1 - i := by rw [List.length_drop, List.length_take]; omega
    rw [List.singleton_append, List.map_cons]
    show (a.take (i : Int).toNat).drop at_ ++ (b.take p.2).drop k ++ putL a ((i : Int).toNat + ((a.take p.1).drop i).length) (diffL a b (p.1 + 1) (p.2 + 1) m) _ = _
    rw [Int.toNat_natCast, hl, show i + (p.1 - i) = p.1 by omega, diff_put a b m (p.1 + 1) (p.2 + 1) p.1 hm (by omega) (by omega) (by omega)]
    have e0 : (a.take p.1).drop p.1 = [] := List.drop_eq_nil_of_le (by rw [List.length_take]; omega)
    rw [ha p.1 (Nat.le_refl _), e0, List.nil_append, he, List.singleton_append, ← hb, List.append_assoc, seg_end b h2]
   ·rename_i h
    obtain rfl : i = p.1 := by omega
    obtain rfl : k = p.2 := by omega
    rw [List.nil_append, diff_put a b m (p.1 + 1) (p.2 + 1) at_ hm (by omega) (by omega) (by omega), ha at_ hat, he, List.append_assoc, List.singleton_append, ← hb]
theorem diff_appl (a b : List ByteArray) : applL a (diffL a b 0 0 (bestOf a b)) = b := by
 have := diff_put a b (bestOf a b) 0 0 0 (bestOf_greedy a b).match (Nat.zero_le _) (Nat.zero_le _) (Nat.le_refl _)
 unfold applL
 rw [this]
 simp
end Go.Proofs.YtognfinkolpemaaDoor.Pr
end
section
namespace Go.Proofs.YtognfinkolpemaaDoor.Pr
open Go.RowKit Go.Proofs.YtognfinkolpemaaDoorW.PrintWords Go.Proofs.YtognfinkolpemaaDoorW.PrintLast Go.Proofs.YtognfinkolpemaaDoorW.PrintMore
end Go.Proofs.YtognfinkolpemaaDoor.Pr
end
section
namespace Go.Proofs.YtognfinkolpemaaDoor.Pr
open Go.RowKit Go.Proofs.YtognfinkolpemaaDoorW.PrintWords Go.Proofs.YtognfinkolpemaaDoorW.PrintLast Go.Proofs.YtognfinkolpemaaDoorW.PrintMore
theorem fit15_ev (a b : List ByteArray) (ha : a.length ≤ 9000000000000000000) (hb : b.length ≤ 9000000000000000000) :
  (Ev (fun k => sidinglaw15_fit.f k a b) false) ∨ (Ev (fun k => sidinglaw15_fit.f k a b) true ∧ bothErr a b = 0 ∧ tiny a ∧ tiny b) := by
 unfold sidinglaw15_fit.f sidinglaw15_long.f
 cases h1 : longOf a with
 | true =>
  exact .inl (Ev.bd (a := true) (Ev.bd (long_ev a ha) (by rw [h1]; exact Ev.pos rfl (Ev.now _))) (Ev.pos rfl (Ev.now _)))
 | false =>
  have e1 : Ev (fun k => (sidingref13_Long.f k a).bind fun t102 => (if t102 = true then (some true) else ((sidingref13_Long.f k b).bind fun t103 => (some t103)))) (longOf b) := Ev.bd (long_ev a ha) (by rw [h1]; exact Ev.neg (by decide) (Ev.bd (long_ev b hb) (Ev.now _)))
  cases h2 : longOf b with
  | true =>
   rw [h2] at e1
   exact .inl (Ev.bd e1 (Ev.pos rfl (Ev.now _)))
  | false =>
   rw [h2] at e1
   obtain ⟨la, ta⟩ := longOf_tiny h1
   obtain ⟨lb, tb⟩ := longOf_tiny h2
   by_cases h : bothErr a b = 0
   ·exact .inr ⟨Ev.bd e1 (Ev.neg (by decide) (Ev.bd (both_ev a b ta tb) (Ev.rt (by simp [h])))), h, ta, tb⟩
   ·exact .inl (Ev.bd e1 (Ev.neg (by decide) (Ev.bd (both_ev a b ta tb) (Ev.rt (by simp [h])))))
theorem plainL_tiny {l : List ByteArray} (h : plainL l = true) : tiny l := by
 unfold plainL at h
 rw [any_wide, Bool.and_eq_true, Bool.not_eq_true', Bool.or_eq_false_iff] at h
 intro s hs
 have h2 := List.any_eq_false.1 h.2.1 s hs
 have h3 : ¬ 2000 < s.size := fun hn => h2 (decide_eq_true hn)
 omega
theorem check_tiny {l : List S36} (h : checkL l = 0) : ∀ x ∈ l, tinyH x := by
 intro x hx
 obtain ⟨_, _, v3, v4, v5, v6, _⟩ := validH_true (chk_valid (checkL_zero h).2 x hx)
 exact ⟨plainL_tiny v3, plainL_tiny v4, by omega, by omega⟩
theorem check_sizes {l : List S36} (h : checkL l = 0) : l.length ≤ 40 ∧ (∀ x ∈ l, 0 ≤ x.f0 ∧ x.f0 ≤ 1000000 ∧ x.f1.length ≤ 1000000) ∧ (∀ x ∈ l, x.f1.length ≤ 1000 ∧ x.f2.length ≤ 1000) ∧ (∀ x ∈ l, x.f2.length ≤ 1000) := by
 obtain ⟨h1, h2⟩ := checkL_zero h
 refine ⟨h1, fun x hx => ?_, fun x hx => ?_, fun x hx => ?_⟩ <;>
 ·obtain ⟨v1, v2, _, _, v5, v6, _⟩ := validH_true (chk_valid h2 x hx)
  omega
end Go.Proofs.YtognfinkolpemaaDoor.Pr
end
section
namespace Go.Proofs.YtognfinkolpemaaDoor.Pr
open Go.RowKit Go.Proofs.YtognfinkolpemaaDoorW.PrintWords Go.Proofs.YtognfinkolpemaaDoorW.PrintLast Go.Proofs.YtognfinkolpemaaDoorW.PrintMore
theorem sequal_loop (a b : List ByteArray) (hl : a.length = b.length) (hb : a.length ≤ 9000000000000000000) : ∀ (d i : Nat), i + d = a.length → Ev (fun k => slices_Equal_string_string.l0 k a b (a.length : Int) (i : Int)) (decide (a.drop i = b.drop i)) := by
 intro d
 induction d with
 | zero =>
  intro i hi
  refine Ev.step (fun k => by rw [slices_Equal_string_string.l0]) ?_
  refine Ev.neg (by omega) (Ev.rt ?_)
  rw [List.drop_eq_nil_of_le (by omega), List.drop_eq_nil_of_le (by omega)]
  simp
 | succ d ih =>
  intro i hi
  have h1 : i < a.length := by omega
  have h2 : i < b.length := by omega
  refine Ev.step (fun k => by rw [slices_Equal_string_string.l0]) ?_
  refine Ev.pos (by omega) (Ev.pos (by omega) (Ev.pos (by omega) (Ev.pos (by omega) ?_)))
  rw [rdOf_at _ _ _ h1, rdOf_at _ _ _ h2, drop_at a i h1, drop_at b i h2]
  by_cases h : a[i] = b[i]
  ·refine Ev.pos (by rw [h]) ?_
   rw [w64 (by omega)]
   refine Ev.eq ?_ (ih (i + 1) (by omega))
   rw [Bool.eq_iff_iff, decide_eq_true_iff, decide_eq_true_iff, h, List.cons.injEq]
   simp
  ·refine Ev.neg (fun e => h (toList_inj.1 e)) (Ev.rt ?_)
   symm
   rw [decide_eq_false_iff_not, List.cons.injEq]
   exact fun e => h e.1
theorem sequal_ev (a b : List ByteArray) (hb : a.length ≤ 9000000000000000000) : Ev (fun k => slices_Equal_string_string.f k a b) (decide (a = b)) := by
 unfold slices_Equal_string_string.f
 by_cases h : a.length = b.length
 ·have := sequal_loop a b h hb a.length 0 (by omega)
  rw [List.drop_zero, List.drop_zero] at this
  exact Ev.pos (by omega) this
 ·refine Ev.neg (by omega) (Ev.rt ?_)
  rw [decide_eq_false]
  intro e
  exact h (by rw [e])
end Go.Proofs.YtognfinkolpemaaDoor.Pr
end
section
namespace Go.Proofs.YtognfinkolpemaaDoor.Pr
open Go.RowKit Go.Proofs.YtognfinkolpemaaDoorW.PrintWords Go.Proofs.YtognfinkolpemaaDoorW.PrintLast Go.Proofs.YtognfinkolpemaaDoorW.PrintMore
theorem cut_join (a : List ByteArray) {x y z : Int} (hxy : x ≤ y) (hyz : y ≤ z) : widen.cut a x y ++ widen.cut a y z = widen.cut a x z := by
 unfold widen.cut
 have h1 : x.toNat ≤ y.toNat := by omega
 have h2 : y.toNat ≤ z.toNat := by omega
 have h3 := List.take_append_drop (y.toNat - x.toNat) ((a.take z.toNat).drop x.toNat)
 rw [List.drop_drop, show x.toNat + (y.toNat - x.toNat) = y.toNat by omega, List.take_drop, List.take_take, show min (x.toNat + (y.toNat - x.toNat)) z.toNat = y.toNat by omega] at h3
 exact h3
theorem cut_self (a : List ByteArray) (x : Int) : widen.cut a x x = [] := by
 unfold widen.cut
 exact List.drop_eq_nil_of_le (by rw [List.length_take]; omega)
theorem cut_len (a : List ByteArray) (x y : Int) : (widen.cut a x y).length ≤ a.length := by
 unfold widen.cut
 rw [List.length_drop, List.length_take]
 omega
def wend (h : S36) : Int := h.f0 + (h.f1.length : Int)
def grp (a : List ByteArray) (n : Int) : Int → List ByteArray → Int → List S36 → List S36
 | fr, N, e, [] => [⟨fr, widen.cut a fr (min (a.length : Int) (e + n)), N ++ widen.cut a e (min (a.length : Int) (e + n))⟩]
 | fr, N, e, h :: t => if 0 < n ∧ h.f0 - n ≤ e + n then grp a n fr (N ++ widen.cut a e h.f0 ++ h.f2) (wend h) t
   else ⟨fr, widen.cut a fr (min (a.length : Int) (e + n)), N ++ widen.cut a e (min (a.length : Int) (e + n))⟩ :: grp a n (max 0 (h.f0 - n)) (widen.cut a (max 0 (h.f0 - n)) h.f0 ++ h.f2) (wend h) t
def widL (a : List ByteArray) (n : Int) : List S36 → List S36
 | [] => []
 | h :: t => grp a n (max 0 (h.f0 - n)) (widen.cut a (max 0 (h.f0 - n)) h.f0 ++ h.f2) (wend h) t
def wtill (a : List ByteArray) (n e : Int) : List S36 → Int
 | [] => min (a.length : Int) (e + n)
 | x :: _ => min (min (a.length : Int) (e + n)) x.f0
theorem wtill_eq (a : List ByteArray) (n : Int) (h : S36) (t : List S36) : widen.till a n h t = wtill a n (wend h) t := by cases t <;> rfl
theorem fits_cons {a : List ByteArray} {h : S36} {t : List S36} (hf : fitsL a (h :: t) = true) : wend h ≤ (a.length : Int) ∧ widen.cut a h.f0 (wend h) = h.f1 ∧ fitsL a t = true := by
 unfold fitsL at hf
 rw [List.all_cons, Bool.and_eq_true] at hf
 have h1 := hf.1
 unfold fitsAt at h1
 rw [Bool.and_eq_true] at h1
 exact ⟨of_decide_eq_true h1.1, of_decide_eq_true h1.2, hf.2⟩
theorem wtill_le {a : List ByteArray} {n e : Int} {t : List S36} (hn : 0 ≤ n) (he : e ≤ (a.length : Int)) (hc : chkFrom (e + 1) t = 0) : e ≤ wtill a n e t ∧ wtill a n e t ≤ (a.length : Int) := by
 cases t with
 | nil =>
  show e ≤ min (a.length : Int) (e + n) ∧ min (a.length : Int) (e + n) ≤ (a.length : Int)
  omega
 | cons x t =>
  have h1 := (chk_cons hc).2.1
  show e ≤ min (min (a.length : Int) (e + n)) x.f0 ∧ min (min (a.length : Int) (e + n)) x.f0 ≤ (a.length : Int)
  omega
theorem go_fresh {a : List ByteArray} {n : Int} {i : Nat} {h : S36} {t : List S36} {e : Int} {out : List S36} {cur : Option S36} (hn : 0 ≤ n) (hA : a.length ≤ 1000) (hf : widen.fresh n e i h = true) {free : Int} (hc : chkFrom free (h :: t) = 0) (hfi : fitsL a (h :: t) = true) :
  widen.go a n i (h :: t) e out cur = widen.go a n (i + 1) t (wtill a n (wend h) t) (out ++ cur.toList) (some ⟨max 0 (h.f0 - n), widen.cut a (max 0 (h.f0 - n)) (wtill a n (wend h) t), (widen.cut a (max 0 (h.f0 - n)) h.f0 ++ h.f2) ++ widen.cut a (wend h) (wtill a n (wend h) t)⟩) := by
 obtain ⟨v1, v2, v3⟩ := chk_cons hc
 obtain ⟨u1, u2, _, _, u5, u6, _⟩ := validH_true v1
 obtain ⟨f1, f2, f3⟩ := fits_cons hfi
 have hw : wend h = h.f0 + (h.f1.length : Int) := rfl
 have ha := wtill_le (n := n) hn f1 (by rw [hw]; exact v3)
 have hl1 := cut_len a (max 0 (h.f0 - n)) h.f0
 rw [widen.go, if_pos ⟨u1, by omega, by omega, by omega⟩]
 unfold widen.start
 rw [if_pos hf]
 show (widen.grow a h (max 0 (h.f0 - n)) ⟨max 0 (h.f0 - n), [], []⟩).bind _ = _
 unfold widen.grow
 rw [if_pos ⟨by omega, by omega, by simp, by simp⟩]
 simp only [List.nil_append, Option.bind_some, wtill_eq, ← hw]
 unfold widen.tail
 rw [if_pos ⟨by omega, ha.1, ha.2, by simp only [List.length_append]; omega, by simp only [List.length_append]; omega⟩]
 show widen.go a n (i + 1) t _ _ (some ⟨_, widen.cut a _ h.f0 ++ h.f1 ++ _, _⟩) = _
 rw [← f2, cut_join a (by omega) (by omega), cut_join a (by omega) ha.1]
theorem fresh_iff {n z e : Int} {L : Int} {i : Nat} (hi : 0 < i) {h : S36} (hn : 0 ≤ n) (h0 : 0 ≤ e) (he : e + 1 ≤ h.f0) (hL : h.f0 ≤ L) (hz : z = min (min L (e + n)) h.f0) : widen.fresh n z i h = !decide (0 < n ∧ h.f0 - n ≤ e + n) := by
 unfold widen.fresh
 rw [decide_eq_false (show ¬ i = 0 by omega), Bool.false_or]
 by_cases h1 : n = 0
 ·rw [decide_eq_true h1, Bool.or_true, decide_eq_false (by omega)]
  rfl
 ·rw [decide_eq_false h1, Bool.or_false, decide_eq_true (show 0 < n by omega), Bool.true_and]
  by_cases h2 : h.f0 - n ≤ e + n
  ·rw [decide_eq_true (show 0 < n ∧ h.f0 - n ≤ e + n from ⟨by omega, h2⟩), decide_eq_false (by omega)]
   rfl
  ·rw [decide_eq_false (show ¬ (0 < n ∧ h.f0 - n ≤ e + n) from fun hh => h2 hh.2), decide_eq_true (by omega)]
   rfl
theorem go_grp (a : List ByteArray) (n : Int) (hn : 0 ≤ n) (hA : a.length ≤ 1000) : ∀ (t : List S36) (i : Nat) (fr e : Int) (N : List ByteArray) (out : List S36), 0 < i → 0 ≤ fr → fr ≤ e → e ≤ (a.length : Int) → chkFrom (e + 1) t = 0 → fitsL a t = true → N.length ≤ 2000 * i → i + t.length ≤ 1000 →
  widen.go a n i t (wtill a n e t) out (some ⟨fr, widen.cut a fr (wtill a n e t), N ++ widen.cut a e (wtill a n e t)⟩) = some (out ++ grp a n fr N e t) := by
 intro t
 induction t with
 | nil =>
  intro i fr e N out hi h0 h1 h2 hc hf hN hit
  rfl
 | cons h t ih =>
  intro i fr e N out hi h0 h1 h2 hc hf hN hit
  obtain ⟨v1, v2, v3⟩ := chk_cons hc
  obtain ⟨u1, u2, _, _, u5, u6, _⟩ := validH_true v1
  obtain ⟨f1, f2, f3⟩ := fits_cons hf
  have hw : wend h = h.f0 + (h.f1.length : Int) := rfl
  rw [List.length_cons] at hit
  have hz : wtill a n e (h :: t) = min (min (a.length : Int) (e + n)) h.f0 := rfl
  have hfr := fresh_iff (L := (a.length : Int)) (z := wtill a n e (h :: t)) hi (h := h) hn (by omega) v2 (by omega) hz
  by_cases hm : 0 < n ∧ h.f0 - n ≤ e + n
  ·rw [decide_eq_true hm] at hfr
   have ha := wtill_le (n := n) hn f1 (by rw [hw]; exact v3)
   have hzle : e ≤ wtill a n e (h :: t) := by rw [hz]; omega
   have hzh : wtill a n e (h :: t) ≤ h.f0 := by rw [hz]; omega
   rw [show grp a n fr N e (h :: t) = grp a n fr (N ++ widen.cut a e h.f0 ++ h.f2) (wend h) t from if_pos hm]
   obtain ⟨z, hz'⟩ : ∃ z, z = wtill a n e (h :: t) := ⟨_, rfl⟩
   rw [← hz'] at hfr hzle hzh ⊢
   rw [widen.go, if_pos ⟨u1, by omega, by omega, by omega⟩]
   unfold widen.start
   rw [hfr, if_neg (by decide)]
   have l1 := cut_len a fr z
   have l2 := cut_len a e z
   have l3 := cut_len a z h.f0
   have l4 := cut_len a e h.f0
   show (widen.grow a h z ⟨fr, widen.cut a fr z, N ++ widen.cut a e z⟩).bind _ = _
   unfold widen.grow
   rw [if_pos ⟨by omega, by omega, by show (widen.cut a fr z).length ≤ _; omega, by show (N ++ widen.cut a e z).length ≤ _; rw [List.length_append]; omega⟩]
   simp only [Option.bind_some, wtill_eq, ← hw]
   unfold widen.tail
   rw [if_pos ⟨by omega, ha.1, ha.2, by simp only [List.length_append]; omega, by simp only [List.length_append]; omega⟩]
   show widen.go a n (i + 1) t _ out (some ⟨fr, widen.cut a fr z ++ widen.cut a z h.f0 ++ h.f1 ++ _, N ++ widen.cut a e z ++ widen.cut a z h.f0 ++ h.f2 ++ _⟩) = _
   rw [← f2, cut_join a (by omega) (by omega), cut_join a (by omega) (by omega), cut_join a (by omega) ha.1, List.append_assoc N, cut_join a (by omega) (by omega)]
   exact ih (i + 1) fr (wend h) (N ++ widen.cut a e h.f0 ++ h.f2) out (by omega) h0 (by omega) f1 (by rw [hw]; exact v3) f3 (by simp only [List.length_append]; omega) (by omega)
  ·rw [decide_eq_false hm] at hfr
   have hzz : wtill a n e (h :: t) = min (a.length : Int) (e + n) := by rw [hz]; omega
   rw [go_fresh hn hA hfr hc hf, ih (i + 1) (max 0 (h.f0 - n)) (wend h) _ _ (by omega) (by omega) (by omega) f1 (by rw [hw]; exact v3) f3 (by have := cut_len a (max 0 (h.f0 - n)) h.f0; simp only [List.length_append]; omega) (by omega),
    show grp a n fr N e (h :: t) = _ :: _ from if_neg hm, hzz]
   simp
theorem go_wid {a : List ByteArray} {n : Int} (hn : 0 ≤ n) (hA : a.length ≤ 1000) {l : List S36} (hl : l.length ≤ 999) (hc : chkFrom 0 l = 0) (hf : fitsL a l = true) : widen.go a n 0 l 0 [] none = some (widL a n l) := by
 cases l with
 | nil => rfl
 | cons h t =>
  obtain ⟨v1, v2, v3⟩ := chk_cons hc
  obtain ⟨u1, u2, _, _, u5, u6, _⟩ := validH_true v1
  obtain ⟨f1, f2, f3⟩ := fits_cons hf
  have hw : wend h = h.f0 + (h.f1.length : Int) := rfl
  rw [List.length_cons] at hl
  rw [go_fresh hn hA (show widen.fresh n 0 0 h = true from by unfold widen.fresh; rfl) hc hf, go_grp a n hn hA t 1 _ (wend h) _ _ (by omega) (by omega) (by omega) f1 (by rw [hw]; exact v3) f3 (by have := cut_len a (max 0 (h.f0 - n)) h.f0; simp only [List.length_append]; omega) (by omega)]
  rfl
end Go.Proofs.YtognfinkolpemaaDoor.Pr
end
section
namespace Go.Proofs.YtognfinkolpemaaDoor.Pr
open Go.RowKit Go.Proofs.YtognfinkolpemaaDoorW.PrintWords Go.Proofs.YtognfinkolpemaaDoorW.PrintLast Go.Proofs.YtognfinkolpemaaDoorW.PrintMore
theorem hfits_loop (a : List ByteArray) (l : List S36) (ha : a.length ≤ 1000000) (hl : l.length ≤ 1000000) (hv : ∀ h ∈ l, 0 ≤ h.f0 ∧ h.f0 ≤ 1000000 ∧ h.f1.length ≤ 1000000) : ∀ (d i : Nat), i + d = l.length →
  Ev (fun k => hunk_fits.l0 k a l (l.length : Int) (i : Int)) (fitsL a (l.drop i)) := by
 intro d
 induction d with
 | zero =>
  intro i hi
  obtain rfl : i = l.length := by omega
  refine Ev.step (fun k => by rw [hunk_fits.l0]) ?_
  refine Ev.neg (by omega) (Ev.rt ?_)
  rw [List.drop_length]
  rfl
 | succ d ih =>
  intro i hi
  have h : i < l.length := by omega
  obtain ⟨v1, v2, v3⟩ := hv _ (List.getElem_mem h)
  refine Ev.step (fun k => by rw [hunk_fits.l0]) ?_
  refine Ev.pos (by omega) (Ev.pos (by omega) (Ev.pos (by omega) ?_))
  rw [rd_h _ _ h, drop_at l i h, w64 (x := l[i].f0 + (l[i].f1.length : Int)) (by omega)]
  unfold fitsL
  rw [List.all_cons]
  unfold fitsAt
  by_cases hf : l[i].f0 + (l[i].f1.length : Int) ≤ (a.length : Int)
  ·refine Ev.neg (by omega) (Ev.pos v1 (Ev.pos (by omega) (Ev.pos hf (Ev.bd (sequal_ev _ _ (by first | omega | (rw [List.length_drop, List.length_take]; omega))) ?_))))
   rw [decide_eq_true hf, Bool.true_and]
   by_cases hs : (a.take (l[i].f0 + (l[i].f1.length : Int)).toNat).drop l[i].f0.toNat = l[i].f1
   ·rw [decide_eq_true hs, Bool.true_and]
    refine Ev.pos rfl ?_
    rw [w64 (by omega)]
    exact ih (i + 1) (by omega)
   ·rw [decide_eq_false hs]
    exact Ev.neg (by decide) (Ev.rt rfl)
  ·refine Ev.pos (by omega) (Ev.rt ?_)
   rw [decide_eq_false hf]
   rfl
theorem hfits_ev (a : List ByteArray) (l : List S36) (ha : a.length ≤ 1000000) (hl : l.length ≤ 1000000) (hv : ∀ h ∈ l, 0 ≤ h.f0 ∧ h.f0 ≤ 1000000 ∧ h.f1.length ≤ 1000000) : Ev (fun k => hunk_fits.f k a l) (fitsL a l) := hfits_loop a l ha hl hv l.length 0 (by omega)
def widenV (a : List ByteArray) (l : List S36) (n : Int) : List S36 × Int :=
 if linesErr a = 0 then (if checkL l = 0 then (if n < 0 ∨ 5 < n then ([], 2) else if fitsL a l = true then (widL a n l, 0) else ([], 6)) else ([], checkL l)) else ([], linesErr a)
theorem check_vals {l : List S36} (h : checkL l = 0) : l.length ≤ 40 ∧ ∀ x ∈ l, 0 ≤ x.f0 ∧ x.f0 ≤ 1000000 ∧ x.f1.length ≤ 1000000 := by
 obtain ⟨h1, h2⟩ := checkL_zero h
 refine ⟨h1, fun x hx => ?_⟩
 obtain ⟨u1, u2, _, _, u5, _⟩ := validH_true (chk_valid h2 x hx)
 omega
theorem linesErr_60 {a : List ByteArray} (h : linesErr a = 0) : a.length ≤ 60 := by
 unfold linesErr at h
 split at h
 ·cases h
 ·omega
theorem widen_ev (a : List ByteArray) (l : List S36) (n : Int) (hs : small a) : Ev (fun k => hunk_Widen.f k a l n) (widenV a l n) := by
 unfold hunk_Widen.f widenV
 refine Ev.bc (join_val a hs) ?_
 unfold hunk_Widen.g
 by_cases h1 : linesErr a = 0
 ·rw [if_pos h1, if_pos h1]
  refine Ev.pos rfl (Ev.bd (hcheck_ev l) ?_)
  by_cases h2 : checkL l = 0
  ·rw [if_pos h2]
   refine Ev.pos h2 ?_
   by_cases h3 : n < 0 ∨ 5 < n
   ·rw [if_pos h3]
    exact Ev.pos h3 (Ev.now _)
   ·rw [if_neg h3]
    obtain ⟨c1, c2⟩ := check_vals h2
    have ha := linesErr_60 h1
    refine Ev.neg h3 (Ev.bd (hfits_ev a l (by omega) (by omega) c2) ?_)
    by_cases h4 : fitsL a l = true
    ·rw [if_pos h4]
     refine Ev.pos ⟨by omega, by omega⟩ ?_
     rw [go_wid (by omega) (by omega) (by omega) (checkL_zero h2).2 h4]
     refine Ev.rt ?_
     first | rfl | simp only [if_pos h4]
    ·rw [if_neg h4]
     first | exact Ev.neg h4 (Ev.now _) | (simp only [if_neg h4]; exact Ev.now _)
  ·rw [if_neg h2]
   exact Ev.neg h2 (Ev.now _)
 ·rw [if_neg h1, if_neg h1]
  exact Ev.neg h1 (Ev.now _)
end Go.Proofs.YtognfinkolpemaaDoor.Pr
end
section
namespace Go.Proofs.YtognfinkolpemaaDoor.Pr
open Go.RowKit Go.Proofs.YtognfinkolpemaaDoorW.PrintWords Go.Proofs.YtognfinkolpemaaDoorW.PrintLast Go.Proofs.YtognfinkolpemaaDoorW.PrintMore
theorem cut_size (a : List ByteArray) {x y : Int} (h0 : 0 ≤ x) (h1 : x ≤ y) (h2 : y ≤ (a.length : Int)) : ((widen.cut a x y).length : Int) = y - x := by
 unfold widen.cut
 rw [List.length_drop, List.length_take]
 omega
theorem cut_rest (a : List ByteArray) {x y : Int} (h0 : 0 ≤ x) (h1 : x ≤ y) : widen.cut a x y ++ a.drop y.toNat = a.drop x.toNat := by
 unfold widen.cut
 exact seg_end a (by omega)
theorem grp_put (a : List ByteArray) (n : Int) (hn : 0 ≤ n) : ∀ (t : List S36) (fr e : Int) (N : List ByteArray) (at_ : Nat), (at_ : Int) ≤ fr → fr ≤ e → e ≤ (a.length : Int) → chkFrom (e + 1) t = 0 → fitsL a t = true →
  putL a at_ (grp a n fr N e t) ((grp a n fr N e t).map (·.f0)) = (a.take fr.toNat).drop at_ ++ N ++ putL a e.toNat t (t.map (·.f0)) := by
 intro t
 induction t with
 | nil =>
  intro fr e N at_ h1 h2 h3 _ _
  have hz : e ≤ min (a.length : Int) (e + n) := by omega
  have hz2 : min (a.length : Int) (e + n) ≤ (a.length : Int) := by omega
  have e1 := cut_size a (by omega) (Int.le_trans h2 hz) hz2
  have e2 := cut_rest a (by omega : 0 ≤ e) hz
  show (a.take fr.toNat).drop at_ ++ (N ++ widen.cut a e (min (a.length : Int) (e + n))) ++ putL a (fr.toNat + (widen.cut a fr (min (a.length : Int) (e + n))).length) [] [] = _ ++ putL a e.toNat [] []
  unfold putL
  rw [show fr.toNat + (widen.cut a fr (min (a.length : Int) (e + n))).length = (min (a.length : Int) (e + n)).toNat by omega, ← e2]
  simp only [List.append_assoc]
 | cons h t ih =>
  intro fr e N at_ h1 h2 h3 hc hf
  obtain ⟨c1, c2, c3⟩ := chk_cons hc
  obtain ⟨f1, f2, f3⟩ := fits_cons hf
  have hw : h.f0 ≤ wend h := by unfold wend; omega
  have hwt : h.f0.toNat + h.f1.length = (wend h).toNat := by unfold wend; omega
  have ep : putL a e.toNat (h :: t) ((h :: t).map (·.f0)) = widen.cut a e h.f0 ++ h.f2 ++ putL a (wend h).toNat t (t.map (·.f0)) := by
   show (a.take h.f0.toNat).drop e.toNat ++ h.f2 ++ putL a (h.f0.toNat + h.f1.length) t _ = _
   rw [hwt]
   rfl
  rw [ep]
  by_cases hm : 0 < n ∧ h.f0 - n ≤ e + n
  ·rw [show grp a n fr N e (h :: t) = grp a n fr (N ++ widen.cut a e h.f0 ++ h.f2) (wend h) t from if_pos hm, ih fr (wend h) _ at_ h1 (by omega) f1 c3 f3]
   simp only [List.append_assoc]
  ·rw [show grp a n fr N e (h :: t) = ⟨fr, widen.cut a fr (min (a.length : Int) (e + n)), N ++ widen.cut a e (min (a.length : Int) (e + n))⟩ :: grp a n (max 0 (h.f0 - n)) (widen.cut a (max 0 (h.f0 - n)) h.f0 ++ h.f2) (wend h) t from if_neg hm]
   have hz : e ≤ min (a.length : Int) (e + n) := by omega
   have hz2 : min (a.length : Int) (e + n) ≤ (a.length : Int) := by omega
   have hz3 : min (a.length : Int) (e + n) ≤ max 0 (h.f0 - n) := by omega
   have e1 := cut_size a (by omega) (Int.le_trans h2 hz) hz2
   show (a.take fr.toNat).drop at_ ++ (N ++ widen.cut a e (min (a.length : Int) (e + n))) ++ putL a (fr.toNat + (widen.cut a fr (min (a.length : Int) (e + n))).length) (grp a n (max 0 (h.f0 - n)) (widen.cut a (max 0 (h.f0 - n)) h.f0 ++ h.f2) (wend h) t) _ = _
   rw [show fr.toNat + (widen.cut a fr (min (a.length : Int) (e + n))).length = (min (a.length : Int) (e + n)).toNat by omega, ih _ (wend h) _ _ (by omega) (by omega) f1 c3 f3]
   show _ ++ (widen.cut a (min (a.length : Int) (e + n)) (max 0 (h.f0 - n)) ++ _ ++ _) = _
   rw [← cut_join a (show e ≤ max 0 (h.f0 - n) by omega) (show max 0 (h.f0 - n) ≤ h.f0 by omega), ← cut_join a hz hz3]
   simp only [List.append_assoc]
theorem wid_appl (a : List ByteArray) (n : Int) (hn : 0 ≤ n) {l : List S36} (hc : chkFrom 0 l = 0) (hf : fitsL a l = true) : applL a (widL a n l) = applL a l := by
 cases l with
 | nil => rfl
 | cons h t =>
  obtain ⟨c1, c2, c3⟩ := chk_cons hc
  obtain ⟨f1, f2, f3⟩ := fits_cons hf
  have hw : h.f0 ≤ wend h := by unfold wend; omega
  unfold applL
  have hp := grp_put a n hn t (max 0 (h.f0 - n)) (wend h) (widen.cut a (max 0 (h.f0 - n)) h.f0 ++ h.f2) 0 (by omega) (by omega) f1 c3 f3
  refine Eq.trans hp ?_
  show _ = (a.take h.f0.toNat).drop 0 ++ h.f2 ++ putL a (h.f0.toNat + h.f1.length) t _
  rw [show h.f0.toNat + h.f1.length = (wend h).toNat by unfold wend; omega]
  show widen.cut a ((0 : Nat) : Int) (max 0 (h.f0 - n)) ++ _ ++ _ = widen.cut a ((0 : Nat) : Int) h.f0 ++ h.f2 ++ _
  rw [← cut_join a (show ((0 : Nat) : Int) ≤ max 0 (h.f0 - n) by omega) (show max 0 (h.f0 - n) ≤ h.f0 by omega)]
  simp only [List.append_assoc]
theorem grp_zero (a : List ByteArray) : ∀ (t : List S36) (h : S36) (N : List ByteArray) (free : Int), 0 ≤ free → chkFrom free (h :: t) = 0 → fitsL a (h :: t) = true → N = h.f2 → grp a 0 h.f0 N (wend h) t = h :: t := by
 intro t
 induction t with
 | nil =>
  intro h N free hfr hc hf hN
  obtain ⟨f1, f2, f3⟩ := fits_cons hf
  show [(⟨h.f0, widen.cut a h.f0 (min (a.length : Int) (wend h + 0)), N ++ widen.cut a (wend h) (min (a.length : Int) (wend h + 0))⟩ : S36)] = [h]
  rw [show min (a.length : Int) (wend h + 0) = wend h by omega, cut_self, f2, List.append_nil, hN]
 | cons x t ih =>
  intro h N free hfr hc hf hN
  obtain ⟨c1, c2, c3⟩ := chk_cons hc
  obtain ⟨f1, f2, f3⟩ := fits_cons hf
  obtain ⟨d1, d2, d3⟩ := chk_cons c3
  have hx : max 0 (x.f0 - 0) = x.f0 := by omega
  rw [show grp a 0 h.f0 N (wend h) (x :: t) = ⟨h.f0, widen.cut a h.f0 (min (a.length : Int) (wend h + 0)), N ++ widen.cut a (wend h) (min (a.length : Int) (wend h + 0))⟩ :: grp a 0 (max 0 (x.f0 - 0)) (widen.cut a (max 0 (x.f0 - 0)) x.f0 ++ x.f2) (wend x) t from if_neg (by omega)]
  rw [hx, cut_self, List.nil_append, ih x x.f2 (h.f0 + (h.f1.length : Int) + 1) (by omega) c3 f3 rfl]
  rw [show min (a.length : Int) (wend h + 0) = wend h by omega, cut_self, f2, List.append_nil, hN]
theorem wid_zero {a : List ByteArray} {l : List S36} (hc : chkFrom 0 l = 0) (hf : fitsL a l = true) : widL a 0 l = l := by
 cases l with
 | nil => rfl
 | cons h t =>
  obtain ⟨c1, c2, c3⟩ := chk_cons hc
  show grp a 0 (max 0 (h.f0 - 0)) (widen.cut a (max 0 (h.f0 - 0)) h.f0 ++ h.f2) (wend h) t = _
  rw [show max 0 (h.f0 - 0) = h.f0 by omega, cut_self, List.nil_append]
  exact grp_zero a t h h.f2 0 (by omega) hc hf rfl
def incrL : Int → List S36 → Prop
 | _, [] => True
 | free, h :: l => free ≤ h.f0 ∧ incrL (h.f0 + (h.f1.length : Int) + 1) l
theorem chk_of_incr : ∀ {l : List S36} {free : Int}, (∀ h ∈ l, validH h = true) → incrL free l → chkFrom free l = 0
 | [], _, _, _ => rfl
 | h :: l, free, hv, hi => by
  unfold chkFrom
  rw [if_pos (hv h List.mem_cons_self), if_neg (by have := hi.1; omega)]
  exact chk_of_incr (fun x hx => hv x (List.mem_cons_of_mem _ hx)) hi.2
structure WideH (a : List ByteArray) (n : Int) (h : S36) : Prop where
 at_ : 0 ≤ h.f0 ∧ h.f0 ≤ (a.length : Int)
 old : ∃ z : Int, h.f0 ≤ z ∧ z ≤ (a.length : Int) ∧ h.f1 = widen.cut a h.f0 z
 some_ : 0 < h.f1.length + h.f2.length
 front : h.f0 = 0 ∨ (n.toNat ≤ h.f1.length ∧ n.toNat ≤ h.f2.length ∧ h.f1.take n.toNat = h.f2.take n.toNat)
theorem grp_wide (a : List ByteArray) (n : Int) (hn : 0 ≤ n) : ∀ (t : List S36) (fr e : Int) (N : List ByteArray), 0 ≤ fr → fr ≤ e → e ≤ (a.length : Int) → chkFrom (e + 1) t = 0 → fitsL a t = true → (0 < (e - fr) + (N.length : Int)) → (fr = 0 ∨ (n ≤ e - fr ∧ n.toNat ≤ N.length ∧ N.take n.toNat = (a.drop fr.toNat).take n.toNat)) → ∀ free : Int, free ≤ fr →
  incrL free (grp a n fr N e t) ∧ (∀ h ∈ grp a n fr N e t, WideH a n h) ∧ (grp a n fr N e t).length ≤ t.length + 1 := by
 have one : ∀ (fr e : Int) (N : List ByteArray), 0 ≤ fr → fr ≤ e → e ≤ (a.length : Int) → (0 < (e - fr) + (N.length : Int)) → (fr = 0 ∨ (n ≤ e - fr ∧ n.toNat ≤ N.length ∧ N.take n.toNat = (a.drop fr.toNat).take n.toNat)) → WideH a n ⟨fr, widen.cut a fr (min (a.length : Int) (e + n)), N ++ widen.cut a e (min (a.length : Int) (e + n))⟩ := by
  intro fr e N h0 h1 h2 hs hft
  have hz : e ≤ min (a.length : Int) (e + n) := by omega
  have hz2 : min (a.length : Int) (e + n) ≤ (a.length : Int) := by omega
  have e1 := cut_size a h0 (Int.le_trans h1 hz) hz2
  refine ⟨⟨h0, by show fr ≤ _; omega⟩, ⟨_, Int.le_trans h1 hz, hz2, rfl⟩, ?_, ?_⟩
  ·show 0 < (widen.cut a fr _).length + (N ++ _).length
   rw [List.length_append]
   omega
  ·rcases hft with h | ⟨g1, g2, g3⟩
   ·exact .inl h
   ·refine .inr ⟨by show _ ≤ (widen.cut a fr _).length; omega, by show _ ≤ (N ++ _).length; rw [List.length_append]; omega, ?_⟩
    show (widen.cut a fr _).take n.toNat = (N ++ _).take n.toNat
    rw [List.take_append_of_le_length g2, g3]
    unfold widen.cut
    rw [List.drop_take, List.take_take, show min n.toNat ((min (a.length : Int) (e + n)).toNat - fr.toNat) = n.toNat by omega]
 intro t
 induction t with
 | nil =>
  intro fr e N h0 h1 h2 _ _ hs hft free hfree
  refine ⟨⟨hfree, trivial⟩, fun h hh => ?_, Nat.le_refl _⟩
  rcases List.mem_singleton.1 hh with rfl
  exact one fr e N h0 h1 h2 hs hft
 | cons x t ih =>
  intro fr e N h0 h1 h2 hc hf hs hft free hfree
  obtain ⟨c1, c2, c3⟩ := chk_cons hc
  obtain ⟨f1, f2, f3⟩ := fits_cons hf
  obtain ⟨_, _, _, _, _, _, v7⟩ := validH_true c1
  have hw : x.f0 ≤ wend x := by unfold wend; omega
  by_cases hm : 0 < n ∧ x.f0 - n ≤ e + n
  ·rw [show grp a n fr N e (x :: t) = grp a n fr (N ++ widen.cut a e x.f0 ++ x.f2) (wend x) t from if_pos hm]
   obtain ⟨i1, i2, i3⟩ := ih fr (wend x) (N ++ widen.cut a e x.f0 ++ x.f2) h0 (by omega) f1 c3 f3 (by simp only [List.length_append]; omega) (by
    rcases hft with h | ⟨g1, g2, g3⟩
    ·exact .inl h
    ·refine .inr ⟨by omega, by simp only [List.length_append]; omega, ?_⟩
     rw [List.append_assoc, List.take_append_of_le_length g2, g3]) free hfree
   exact ⟨i1, i2, by rw [List.length_cons]; omega⟩
  ·rw [show grp a n fr N e (x :: t) = ⟨fr, widen.cut a fr (min (a.length : Int) (e + n)), N ++ widen.cut a e (min (a.length : Int) (e + n))⟩ :: grp a n (max 0 (x.f0 - n)) (widen.cut a (max 0 (x.f0 - n)) x.f0 ++ x.f2) (wend x) t from if_neg hm]
   have hz : e ≤ min (a.length : Int) (e + n) := by omega
   have hz2 : min (a.length : Int) (e + n) ≤ (a.length : Int) := by omega
   have e1 := cut_size a h0 (Int.le_trans h1 hz) hz2
   have e2 := cut_size a (show 0 ≤ max 0 (x.f0 - n) by omega) (show max 0 (x.f0 - n) ≤ x.f0 by omega) (by omega)
   obtain ⟨i1, i2, i3⟩ := ih (max 0 (x.f0 - n)) (wend x) (widen.cut a (max 0 (x.f0 - n)) x.f0 ++ x.f2) (by omega) (by omega) f1 c3 f3 (by unfold wend; rw [List.length_append]; omega) (by
    by_cases h : x.f0 - n ≤ 0
    ·exact .inl (by omega)
    ·refine .inr ⟨by omega, by rw [List.length_append]; omega, ?_⟩
     rw [List.take_append_of_le_length (by omega)]
     unfold widen.cut
     rw [List.drop_take, List.take_take, show min n.toNat (x.f0.toNat - (max 0 (x.f0 - n)).toNat) = n.toNat by omega]) (fr + ((widen.cut a fr (min (a.length : Int) (e + n))).length : Int) + 1) (by omega)
   refine ⟨⟨hfree, i1⟩, fun h hh => ?_, by rw [List.length_cons, List.length_cons]; omega⟩
   rcases List.mem_cons.1 hh with rfl | hh
   ·exact one fr e N h0 h1 h2 hs hft
   ·exact i2 h hh
theorem wid_wide (a : List ByteArray) (n : Int) (hn : 0 ≤ n) {l : List S36} (hc : chkFrom 0 l = 0) (hf : fitsL a l = true) : incrL 0 (widL a n l) ∧ (∀ h ∈ widL a n l, WideH a n h) ∧ (widL a n l).length ≤ l.length := by
 cases l with
 | nil => exact ⟨trivial, fun h hh => (List.not_mem_nil hh).elim, Nat.le_refl _⟩
 | cons x t =>
  obtain ⟨c1, c2, c3⟩ := chk_cons hc
  obtain ⟨f1, f2, f3⟩ := fits_cons hf
  obtain ⟨_, _, _, _, _, _, v7⟩ := validH_true c1
  have hw : x.f0 ≤ wend x := by unfold wend; omega
  have e2 := cut_size a (show 0 ≤ max 0 (x.f0 - n) by omega) (show max 0 (x.f0 - n) ≤ x.f0 by omega) (by omega)
  refine grp_wide a n hn t (max 0 (x.f0 - n)) (wend x) (widen.cut a (max 0 (x.f0 - n)) x.f0 ++ x.f2) (by omega) (by omega) f1 c3 f3 (by unfold wend; rw [List.length_append]; omega) (by
    by_cases h : x.f0 - n ≤ 0
    ·exact .inl (by omega)
    ·refine .inr ⟨by omega, by rw [List.length_append]; omega, ?_⟩
     rw [List.take_append_of_le_length (by omega)]
     unfold widen.cut
     rw [List.drop_take, List.take_take, show min n.toNat (x.f0.toNat - (max 0 (x.f0 - n)).toNat) = n.toNat by omega]) 0 (by omega)
theorem wide_fits {a : List ByteArray} {n : Int} {h : S36} (w : WideH a n h) : fitsAt a h = true := by
 obtain ⟨⟨h0, h1⟩, ⟨z, z1, z2, z3⟩, _, _⟩ := w
 have e1 := cut_size a h0 z1 z2
 unfold fitsAt
 rw [z3, Bool.and_eq_true, decide_eq_true_eq, decide_eq_true_eq]
 refine ⟨by omega, ?_⟩
 rw [show h.f0 + ((widen.cut a h.f0 z).length : Int) = z by omega]
 rfl
theorem put_sub (a : List ByteArray) : ∀ {l : List S36} {at_ : Nat}, ∀ h ∈ l, h.f2.Sublist (putL a at_ l (l.map (·.f0)))
 | [], _, h, hh => by cases hh
 | x :: l, at_, h, hh => by
  show h.f2.Sublist ((a.take x.f0.toNat).drop at_ ++ x.f2 ++ putL a (x.f0.toNat + x.f1.length) l (l.map (·.f0)))
  rcases List.mem_cons.1 hh with rfl | hh
  ·exact List.Sublist.trans (List.sublist_append_right _ _) (List.sublist_append_left _ _)
  ·exact List.Sublist.trans (put_sub a h hh) (List.sublist_append_right _ _)
theorem sub_plain {b l : List ByteArray} (hb : linesErr b = 0) (h : l.Sublist b) : plainL l = true := by
 have h2 := h.length_le
 have h3 := linesErr_len hb
 unfold plainL
 rw [Bool.and_eq_true, decide_eq_true_eq]
 refine ⟨by omega, ?_⟩
 simp only [Bool.not_eq_true', List.any_eq_false]
 intro s hs
 rw [linesErr_plain hb s (h.subset hs)]
 decide
theorem wid_all {a b : List ByteArray} {n : Int} (ha : linesErr a = 0) (hb : linesErr b = 0) (hn : 0 ≤ n) {l : List S36} (hc : checkL l = 0) (hf : fitsL a l = true) (hap : applL a l = b) :
  checkL (widL a n l) = 0 ∧ fitsL a (widL a n l) = true ∧ applL a (widL a n l) = b ∧ (widL a n l).length ≤ l.length ∧ ∀ h ∈ widL a n l, WideH a n h := by
 obtain ⟨c1, c2⟩ := checkL_zero hc
 obtain ⟨w1, w2, w3⟩ := wid_wide a n hn c2 hf
 have w4 := wid_appl a n hn c2 hf
 rw [hap] at w4
 have la := linesErr_len ha
 refine ⟨?_, ?_, w4, w3, w2⟩
 ·unfold checkL
  rw [if_neg (by omega)]
  refine chk_of_incr (fun h hh => ?_) w1
  obtain ⟨⟨h0, h1⟩, ⟨z, z1, z2, z3⟩, h4, _⟩ := w2 h hh
  have s1 : plainL h.f2 = true := sub_plain hb (by rw [← w4]; exact put_sub a h hh)
  have s2 : plainL h.f1 = true := by rw [z3]; exact plain_seg ha _ _
  simp only [validH, Bool.and_eq_true, decide_eq_true_eq]
  exact ⟨⟨⟨⟨h0, by omega⟩, s2⟩, s1⟩, h4⟩
 ·unfold fitsL
  rw [List.all_eq_true]
  exact fun h hh => wide_fits (w2 h hh)
end Go.Proofs.YtognfinkolpemaaDoor.Pr
end
section
namespace Go.Proofs.YtognfinkolpemaaDoor.Pr
open Go.RowKit Go.Proofs.YtognfinkolpemaaDoorW.PrintWords Go.Proofs.YtognfinkolpemaaDoorW.PrintLast Go.Proofs.YtognfinkolpemaaDoorW.PrintMore
theorem hsame_loop (a b : List S36) (hab : a.length = b.length) (hl : a.length ≤ 1000000) (ht : ∀ h ∈ a, h.f1.length ≤ 1000000000 ∧ h.f2.length ≤ 1000000000) : ∀ (d i : Nat), i + d = a.length →
  Ev (fun k => sidingref15_Same.l0 k a b (i : Int)) (decide (a.drop i = b.drop i)) := by
 intro d
 induction d with
 | zero =>
  intro i hi
  refine Ev.step (fun k => by rw [sidingref15_Same.l0]) ?_
  refine Ev.neg (by omega) (Ev.rt ?_)
  rw [List.drop_eq_nil_of_le (by omega), List.drop_eq_nil_of_le (by omega)]
  simp
 | succ d ih =>
  intro i hi
  have h : i < a.length := by omega
  have hb : i < b.length := by omega
  obtain ⟨t1, t2⟩ := ht _ (List.getElem_mem h)
  refine Ev.step (fun k => by rw [sidingref15_Same.l0]) ?_
  refine Ev.pos (by omega) (Ev.pos (by omega) (Ev.pos (by omega) ?_))
  rw [rd_h _ _ h, rd_h _ _ hb, drop_at a i h, drop_at b i hb]
  have key : ∀ (x y : S36), x = y ↔ x.f0 = y.f0 ∧ x.f1 = y.f1 ∧ x.f2 = y.f2 := by
   rintro ⟨x0, x1, x2⟩ ⟨y0, y1, y2⟩
   simp
  by_cases h0 : a[i].f0 = b[i].f0
  ·refine Ev.pos h0 (Ev.bd (same_ev _ _ (by omega)) ?_)
   by_cases h1 : a[i].f1 = b[i].f1
   ·rw [decide_eq_true h1]
    refine Ev.pos rfl (Ev.bd (same_ev _ _ (by omega)) ?_)
    by_cases h2 : a[i].f2 = b[i].f2
    ·rw [decide_eq_true h2]
     refine Ev.pos rfl ?_
     rw [w64 (by omega)]
     refine Ev.eq ?_ (ih (i + 1) (by omega))
     have e0 := (key _ _).2 ⟨h0, h1, h2⟩
     rw [Bool.eq_iff_iff, decide_eq_true_iff, decide_eq_true_iff]
     constructor
     ·intro e; rw [e0, e]
     ·intro e; exact (List.cons.inj e).2
    ·rw [decide_eq_false h2]
     refine Ev.neg (by decide) (Ev.rt ?_)
     rw [decide_eq_false]
     intro e
     exact h2 ((key _ _).1 (List.cons.inj e).1).2.2
   ·rw [decide_eq_false h1]
    refine Ev.neg (by decide) (Ev.rt ?_)
    rw [decide_eq_false]
    intro e
    exact h1 ((key _ _).1 (List.cons.inj e).1).2.1
  ·refine Ev.neg h0 (Ev.rt ?_)
   rw [decide_eq_false]
   intro e
   exact h0 ((key _ _).1 (List.cons.inj e).1).1
theorem hsame_ev (a b : List S36) (hl : a.length ≤ 1000000) (ht : ∀ h ∈ a, h.f1.length ≤ 1000000000 ∧ h.f2.length ≤ 1000000000) : Ev (fun k => sidingref15_Same.f k a b) (decide (a = b)) := by
 unfold sidingref15_Same.f
 by_cases h : a.length = b.length
 ·have := hsame_loop a b h hl ht a.length 0 (by omega)
  rw [List.drop_zero, List.drop_zero] at this
  exact Ev.pos (by omega) this
 ·refine Ev.neg (by omega) (Ev.rt ?_)
  rw [decide_eq_false]
  intro e
  exact h (by rw [e])
end Go.Proofs.YtognfinkolpemaaDoor.Pr
end
section
namespace Go.Proofs.YtognfinkolpemaaDoor.Pure
open Go Go.RowKit Go.Proofs.YtognfinkolpemaaDoor.Pr Go.Proofs.YtognfinkolpemaaDoorW.PrintWords Go.Proofs.YtognfinkolpemaaDoorW.PrintLast Go.Proofs.YtognfinkolpemaaDoorW.PrintMore
theorem front_ev (z : Int) (x y : List ByteArray) (c : Nat) (hc1 : c ≤ x.length) (hc2 : c ≤ y.length) (hx : x.length ≤ 1000000) (he : ∀ i (h1 : i < x.length) (h2 : i < y.length), i < c → x[i] = y[i]) : ∀ (d i : Nat), i + d = x.length →
  ∃ m : Nat, Ev (fun k => sidinglaw15_front.l0 k (i : Int) z x y) (m : Int) ∧ c ≤ m := by
 intro d
 induction d with
 | zero =>
  intro i hi
  refine ⟨i, Ev.step (fun k => by rw [sidinglaw15_front.l0]) (Ev.neg (by omega) (Ev.now _)), by omega⟩
 | succ d ih =>
  intro i hi
  have h1 : i < x.length := by omega
  by_cases h2 : i < y.length
  ·by_cases h : x[i] = y[i]
   ·obtain ⟨m, m1, m2⟩ := ih (i + 1) (by omega)
    refine ⟨m, Ev.step (fun k => by rw [sidinglaw15_front.l0]) (Ev.pos (by omega) (Ev.pos (by omega) (Ev.pos (by omega) ?_))), m2⟩
    rw [rdOf_at _ _ _ h1, rdOf_at _ _ _ h2, w64 (by omega)]
    exact Ev.pos (toList_inj.2 h) m1
   ·refine ⟨i, Ev.step (fun k => by rw [sidinglaw15_front.l0]) (Ev.pos (by omega) (Ev.pos (by omega) (Ev.pos (by omega) ?_))), ?_⟩
    ·rw [rdOf_at _ _ _ h1, rdOf_at _ _ _ h2, w64 (by omega)]
     exact Ev.neg (fun e => h (toList_inj.1 e)) (Ev.now _)
    ·apply Classical.byContradiction
     intro hn
     exact h (he i h1 h2 (by omega))
  ·exact ⟨i, Ev.step (fun k => by rw [sidinglaw15_front.l0]) (Ev.pos (by omega) (Ev.neg (by omega) (Ev.now _))), by omega⟩
theorem wide_loop (a : List ByteArray) (n : Int) (hn : 0 ≤ n) (y : List S36) (hy : y.length ≤ 1000) (hs : ∀ h ∈ y, h.f1.length ≤ 1000) (hw : ∀ h ∈ y, WideH a n h) : ∀ (d i : Nat), i + d = y.length →
  Ev (fun k => sidinglaw15_HunkWide.l0 k n true y (i : Int)) true := by
 intro d
 induction d with
 | zero =>
  intro i hi
  exact Ev.step (fun k => by rw [sidinglaw15_HunkWide.l0]) (Ev.neg (by omega) (Ev.now _))
 | succ d ih =>
  intro i hi
  have h : i < y.length := by omega
  have w := hw _ (List.getElem_mem h)
  have s := hs _ (List.getElem_mem h)
  have next := ih (i + 1) (by omega)
  refine Ev.step (fun k => by rw [sidinglaw15_HunkWide.l0]) (Ev.pos (by omega) (Ev.pos (by omega) ?_))
  rw [rd_h _ _ h, w64 (by omega)]
  have key : ∀ (m : Nat), (y[i].f0 = 0 ∨ n ≤ (m : Int)) → Ev (fun k => if (m : Int) < n then (if y[i].f0 > 0 then (some false) else (sidinglaw15_HunkWide.l0 k n true y ((i : Int) + 1))) else (sidinglaw15_HunkWide.l0 k n true y ((i : Int) + 1))) true := by
   intro m hm
   by_cases h1 : (m : Int) < n
   ·exact Ev.pos h1 (Ev.neg (by omega) next)
   ·exact Ev.neg h1 next
  rcases w.front with w0 | ⟨w1, w2, w3⟩
  ·obtain ⟨m, m1, m2⟩ := front_ev y[i].f0 y[i].f1 y[i].f2 0 (Nat.zero_le _) (Nat.zero_le _) (by omega) (fun j _ _ hj => absurd hj (by omega)) y[i].f1.length 0 (by omega)
   refine Ev.bd (a := (m : Int)) (by unfold sidinglaw15_front.f; exact m1) (key m (.inl w0))
  ·obtain ⟨m, m1, m2⟩ := front_ev y[i].f0 y[i].f1 y[i].f2 n.toNat w1 w2 (by omega) (fun j h1 h2 hj => by
    have e := congrArg (fun l => l[j]?) w3
    simp only [List.getElem?_take_of_lt hj, List.getElem?_eq_getElem h1, List.getElem?_eq_getElem h2] at e
    exact Option.some.inj e) y[i].f1.length 0 (by omega)
   refine Ev.bd (a := (m : Int)) (by unfold sidinglaw15_front.f; exact m1) (key m (.inr (by omega)))
theorem HunkWide : sidinglaw15_HunkWide.Pure := by
 intro a b n wa wb wn
 have triv : Ev (fun k => sidinglaw15_HunkWide.j0 k a b n true true) true := by
  refine Ev.step (fun k => by rw [sidinglaw15_HunkWide.j0]) ?_
  exact Ev.pos rfl (Ev.now _)
 have main : Ev (fun k => sidinglaw15_HunkWide.f k a b n) true := by
  unfold sidinglaw15_HunkWide.f
  refine Ev.bc (a := true) rfl ?_
  rcases fit15_ev a b (by omega) (by omega) with h | ⟨h, h0, ta, tb⟩
  ·exact Ev.bd h (Ev.neg (by decide) triv)
  ·refine Ev.bd h (Ev.pos rfl ?_)
   by_cases n1 : n < 0
   ·exact Ev.pos n1 triv
   refine Ev.neg n1 ?_
   by_cases n2 : n > 5
   ·exact Ev.pos n2 triv
   refine Ev.neg n2 (Ev.step (fun k => by rw [sidinglaw15_HunkWide.j0]) ?_)
   obtain ⟨z1, z2⟩ := bothErr_zero.1 h0
   have l1 := linesErr_len z1
   have l2 := linesErr_len z2
   have d1 := diff_ev a b ta.small tb.small
   rw [if_pos h0] at d1
   have hc := diff_check h0
   have hf := diff_fits a b (bestOf a b) 0 0 (bestOf_greedy a b).match (Nat.zero_le _)
   have hap := diff_appl a b
   obtain ⟨L, hL⟩ : ∃ L, L = diffL a b 0 0 (bestOf a b) := ⟨_, rfl⟩
   rw [← hL] at d1 hc hf hap
   obtain ⟨c1, c2, c3, c4⟩ := check_sizes hc
   have w0 := widen_ev a L 0 ta.small
   have w1 := widen_ev a L n ta.small
   unfold widenV at w0 w1
   rw [if_pos z1, if_pos hc, if_neg (by omega), if_pos hf] at w0 w1
   rw [wid_zero (checkL_zero hc).2 hf] at w0
   obtain ⟨g1, g2, g3, g4, g5⟩ := wid_all (n := n) z1 z2 (by omega) hc hf hap
   obtain ⟨Y, hY⟩ : ∃ Y, Y = widL a n L := ⟨_, rfl⟩
   rw [← hY] at w1 g1 g2 g3 g4 g5
   obtain ⟨y1, y2, y3, y4⟩ := check_sizes g1
   have d4 := rcheck_ev Y (check_tiny g1)
   rw [g1] at d4
   have d5 := fits_ev a Y (by omega) (by omega) y2
   rw [g2] at d5
   have d2 := hsame_ev L L (by omega) (fun x hx => by have := c3 x hx; omega)
   rw [decide_eq_true rfl] at d2
   refine Ev.neg (by decide) (Ev.bd d1 (Ev.bd w0 (Ev.bd w1 (Ev.pos rfl (Ev.pos rfl (Ev.pos rfl (Ev.bd d2 (Ev.pos rfl (Ev.bd d4 (Ev.pos rfl (Ev.bd d5 (Ev.pos rfl ?_))))))))))))
   rw [decide_eq_false (by omega : ¬ ((Y.length : Int) > (L.length : Int)))]
   refine Ev.step (fun k => by rw [sidinglaw15_HunkWide.j1]) (Ev.neg (by decide) ?_)
   have hord : inOrd a 0 Y (Y.map (·.f0)) := inOrd_of (checkL_zero g1).2 g2 (Int.le_refl _) (Nat.zero_le _)
   have d6 := applied_ev a Y (by omega) (by omega) y4 hord
   rw [g3] at d6
   refine Ev.bd d6 (Ev.bd (same_ev b b (by omega)) (Ev.pos (by simp) ?_))
   exact wide_loop a n (by omega) Y (by omega) (fun x hx => (y3 x hx).1) g5 Y.length 0 (by omega)
 obtain ⟨k, hk⟩ := main.rounds
 exact ⟨k, hk⟩
end Go.Proofs.YtognfinkolpemaaDoor.Pure
end
section
namespace Go.Proofs.YtognfinkolpemaaDoorW.PrintWords
open Go Go.ChangeShapes Go.WideShapes Go.Deep
structure Rdb {α : Type} (P : Program) (t : TypeId) (d : Kd α) (wf : α → Prop) : Prop where
 cells : P.cellsOf t = d.sz
 rd : ∀ {H : Type} {enc : TypeId × Value → H} {w : World} {base : Nat} {spare : Nat → Bool} {held : Bool} {fuel : Nat} {cs : List Value} {x : DataW H × List MemPlace},
  DataW.trod enc P w base spare held fuel t cs = some x → (∀ n ∈ x.1.weights P t, n ≤ 140737488351232) → ∃ v, d.K w v cs ∧ wf v
theorem Rdb.int {P : Program} {t : TypeId} {k : IntKind} (ht : P.underlying t = some (.int k)) (hc : P.cellsOf t = 1) : Rdb P t (Kd.int k) (fun x => (Lit.int k x).wf = true) :=
 ⟨hc, fun h _ => by
  obtain ⟨n, rfl, _, hw⟩ := DataW.trod_int ht h
  exact ⟨n, rfl, hw⟩⟩
theorem Rdb.bool {P : Program} {t : TypeId} (ht : P.underlying t = some .bool) (hc : P.cellsOf t = 1) : Rdb P t Kd.bool (fun _ => True) :=
 ⟨hc, fun h _ => by
  obtain ⟨b, rfl, _⟩ := DataW.trod_bool ht h
  exact ⟨b, rfl, trivial⟩⟩
theorem Rdb.string {P : Program} {t : TypeId} (ht : P.underlying t = some .string) (hc : P.cellsOf t = 1) : Rdb P t Kd.string (fun s => s.size ≤ 140737488351232) :=
 ⟨hc, fun h hz => by
  obtain ⟨s, rfl, rfl, _⟩ := DataW.trod_string ht h
  refine ⟨s, rfl, ?_⟩
  have := hz s.data.toList.length (by simp [DataW.weights])
  rwa [data_length] at this⟩
theorem weightsAll_mem {H : Type} {P : Program} {e : TypeId} {d : DataW H} : ∀ {l : List (DataW H)}, d ∈ l → ∀ n ∈ d.weights P e, n ∈ DataW.weightsAll P e l
 | a :: l, hd, n, hn => by
  rcases List.mem_cons.1 hd with rfl | hd
  ·simp only [DataW.weightsAll, List.mem_append]
   exact .inl hn
  ·simp only [DataW.weightsAll, List.mem_append]
   exact .inr (weightsAll_mem hd n hn)
theorem cells_at {w : World} {base : Nat} {a : Addr} {n : Nat} {cs : List Value} (h : w.cells? base a n = some cs) : cs.length = n ∧ ∀ i u, cs[i]? = some u → w.cell? (a.add i) = some u := by
 unfold World.cells? at h
 split at h
 ·have hl := mapM_some_length h
  rw [List.length_range] at hl
  refine ⟨hl, fun i u hu => ?_⟩
  have hi : i < n := by
   have := (List.getElem?_eq_some_iff.1 hu).1
   omega
  have := mapM_some_get h i i (by simp [hi])
  rw [this, hu]
 ·cases h
theorem Rdb.slice {α : Type} [Inhabited α] {P : Program} {t e : TypeId} {d : Kd α} {wf : α → Prop} {B : Nat} (ht : P.underlying t = some (.slice e)) (hc : P.cellsOf t = 1) (hB : P.bytesOf e = B) (h : Rdb P e d wf) :
  Rdb P t (Kd.slice e d) (fun xs => xs.length * B ≤ 140737488351232 ∧ ∀ x ∈ xs, wf x) :=
 ⟨hc, fun {H enc w base spare held fuel cs x} hx hz => by
  rcases open_slice ht hx with ⟨rfl, _⟩ | ⟨a, len, cap, m, n, D, Pl, rfl, hb, hl, hm, hmm, rfl, hel⟩
  ·exact ⟨[], ⟨none, 0, rfl, Nat.le_refl _, rfl, by simp, fun hp => absurd hp (by simp)⟩, by simp, by simp⟩
  ·have hlm : len ≤ m := by
    rw [hmm]
    split
    ·exact hl
    ·exact Nat.le_refl _
   have hw : ∀ i, i < len → ∀ n ∈ (D i).weights P e, n ≤ 140737488351232 := by
    intro i hi n hn
    apply hz n
    simp only [DataW.weights, ht, List.mem_cons, List.mem_append]
    exact .inr (.inl (weightsAll_mem (List.mem_map.2 ⟨i, List.mem_range.2 hi, rfl⟩) n hn))
   have hlen : len * B ≤ 140737488351232 := by
    have := hz ((((List.range len).map D).length + ((List.range (m - len)).map fun j => D (len + j)).length) * P.bytesOf e) (by simp [DataW.weights, ht])
    rw [hB] at this
    simp only [List.length_map, List.length_range] at this
    exact Nat.le_trans (Nat.mul_le_mul_right _ (by omega)) this
   obtain ⟨V, hV⟩ := choose_lt (α := α) (n := len) (p := fun i v => ∃ c, c.length = d.sz ∧ d.K w v c ∧ (∀ j u, c[j]? = some u → w.cell? (a.add (i * d.sz + j)) = some u) ∧ wf v) (by
    intro i hi
    obtain ⟨cs', h1, h2⟩ := hel i (by omega)
    obtain ⟨v, hK, hwf⟩ := h.rd h2 (hw i hi)
    obtain ⟨_, hcell⟩ := cells_at h1
    refine ⟨v, cs', d.K_len hK, hK, fun j u hu => ?_, hwf⟩
    have := hcell j u hu
    rwa [h.cells, add_add] at this)
   refine ⟨(List.range len).map V, ⟨some a, cap, by simp, by simpa using hl, rfl, by simp; simp only [maxLen] at hm; omega, fun hp => ⟨a, rfl, fun j p hj => ?_⟩⟩, by simpa using hlen, ?_⟩
   ·have hjl : j < len := by
     have := (List.getElem?_eq_some_iff.1 hj).1
     simpa using this
    have : p = V j := by
     simp [hjl] at hj
     exact hj.symm
    subst this
    obtain ⟨c, h1, h2, h3, _⟩ := hV j hjl
    exact ⟨c, h1, h2, h3⟩
   ·intro p hp
    obtain ⟨i, hi, rfl⟩ := List.mem_map.1 hp
    obtain ⟨_, _, _, _, h4⟩ := hV i (List.mem_range.1 hi)
    exact h4⟩
def RdF {α : Type} (P : Program) (fs : List Field) (off : Nat) (d : Kd α) (wf : α → Prop) : Prop :=
 ∀ {H : Type} {enc : TypeId × Value → H} {w : World} {base : Nat} {spare : Nat → Bool} {held : Bool} {fuel : Nat} {cs : List Value} {xs : List (DataW H × List MemPlace)},
  (∀ (i : Nat) (f : Field), fs[i]? = some f → DataW.trod enc P w base spare held fuel f.type ((cs.drop f.offset).take (P.cellsOf f.type)) = xs[i]?) → xs.length = fs.length → cs.length = off + d.sz →
  (∀ n ∈ DataW.weightsEach P (fs.map (·.type)) (xs.map (·.1)), n ≤ 140737488351232) → ∃ v, d.K w v (cs.drop off) ∧ wf v
theorem RdF.last {α : Type} {P : Program} {f : Field} {off : Nat} {d : Kd α} {wf : α → Prop} (ho : f.offset = off) (h : Rdb P f.type d wf) : RdF P [f] off d wf := by
 intro H enc w base spare held fuel cs xs hf hl hc hz
 match xs, hl with
 | [x], _ =>
  have h1 := hf 0 f rfl
  rw [ho, h.cells, List.take_of_length_le (by rw [List.length_drop]; omega)] at h1
  exact h.rd h1 (fun n hn => hz n (by simp [DataW.weightsEach, hn]))
theorem RdF.cons {α β : Type} {P : Program} {f : Field} {fs : List Field} {off : Nat} {a : Kd α} {b : Kd β} {wa : α → Prop} {wb : β → Prop} (ho : f.offset = off) (h : Rdb P f.type a wa) (hr : RdF P fs (off + a.sz) b wb) : RdF P (f :: fs) off (Kd.pair a b) (fun x => wa x.1 ∧ wb x.2) := by
 intro H enc w base spare held fuel cs xs hf hl hc hz
 match xs, hl with
 | x :: xs, hl =>
  have hsz : (Kd.pair a b).sz = a.sz + b.sz := rfl
  have h1 := hf 0 f rfl
  rw [ho, h.cells] at h1
  obtain ⟨v, hv, hwv⟩ := h.rd h1 (fun n hn => hz n (by simp [DataW.weightsEach, hn]))
  obtain ⟨u, hu, hwu⟩ := hr (cs := cs) (xs := xs) (fun i g hg => by simpa using hf (i + 1) g (by simpa using hg)) (by simpa using hl) (by rw [hc, hsz]; omega) (fun n hn => hz n (by simp only [List.map_cons, DataW.weightsEach, List.mem_append]; exact .inr hn))
  refine ⟨(v, u), ⟨_, _, ?_, hv, hu⟩, hwv, hwu⟩
  rw [← List.drop_drop, List.take_append_drop]
theorem Rdb.struct {α β : Type} {P : Program} {t : TypeId} {fs : Array Field} {d : Kd α} {wf : α → Prop} (f : β → α) (g : α → β) (hfg : ∀ x, f (g x) = x) (ht : P.underlying t = some (.struct fs)) (hc : P.cellsOf t = d.sz) (h : RdF P fs.toList 0 d wf) :
  Rdb P t (Kd.iso d f) (fun x => wf (f x)) :=
 ⟨hc, fun hx hz => by
  obtain ⟨xs, n, _, rfl, hl, hlen, hf⟩ := DataW.trod_struct ht hx
  obtain ⟨v, hv, hw⟩ := h (xs := xs) (fun i f hi => hf i f (by simpa using hi)) (by simpa using hlen) (by rw [hl, hc, Nat.zero_add]) (fun n hn => hz n (by simpa [DataW.weights, ht] using hn))
  refine ⟨g v, ?_, ?_⟩
  ·show d.K _ (f (g v)) _
   rw [hfg]
   simpa using hv
  ·rw [hfg]
   exact hw⟩
theorem Rdb.top {α : Type} {H : Type} {enc : TypeId × Value → H} {P : Program} {W : World} {base : Nat} {spare : Nat → Bool} {held : Bool} {t e : TypeId} {d : Kd α} {wf : List α → Prop} {a : Option Addr} {len cap : Nat} {dd : DataW H} {ps : List MemPlace} {ts : List TypeId} {ds : List (DataW H)} {j : Nat}
  (R : Rdb P t (Kd.slice e d) wf) (hsz : (DataW.weightsEach P ts ds).all (· ≤ reachBytes) = true) (ht : ts[j]? = some t) (hd : ds[j]? = some dd)
  (h : DataW.Trod enc P W base spare held t (.slice a len cap) dd ps) : ∃ l : List α, len = l.length ∧ d.C W a l.length l ∧ l.length ≤ cap ∧ wf l := by
 obtain ⟨fuel, hf⟩ := h
 obtain ⟨l, ⟨A, c, he, hl, hC⟩, hw⟩ := R.rd hf (fun n hn => by
  have := List.all_eq_true.1 hsz _ (DataW.weights_mem_each ht hd n hn)
  exact of_decide_eq_true this)
 simp [Value.cells] at he
 obtain ⟨rfl, rfl, rfl⟩ := he
 exact ⟨l, rfl, hC, hl, hw⟩
end Go.Proofs.YtognfinkolpemaaDoorW.PrintWords
end
