/- Part 20 of the proof of MergeLaws: texts put together. -/
import Derived.Test.YtahpbpacjciddaaJMergeLaws1
import Derived.Test.YtahpbpacjciddaaJMergeLaws4
import Derived.Test.YtahpbpacjciddaaJMergeLaws11
import Derived.Test.YtahpbpacjciddaaJMergeLaws14
import Derived.Test.YtahpbpacjciddaaJMergeLaws15
import Derived.Test.YtahpbpacjciddaaJMergeLaws17
import Derived.Test.YtahpbpacjciddaaJMergeLaws18
import Derived.Test.YtahpbpacjciddaaJMergeLaws19
import Derived.Deep.Slices
import Derived.ChangeSame
import Derived.SizedLaws
section
namespace Go.Proofs.Ytahpbpacjciddaa.Pr
open Go.RowKit Go.Proofs.YtahpbpacjciddaaW.PrintWords Go.Proofs.YtahpbpacjciddaaW.PrintLast Go.Proofs.YtahpbpacjciddaaW.PrintMore
set_option linter.unusedVariables false
set_option linter.unusedSimpArgs false
theorem match_weak {a b : List ByteArray} {i i' k : Nat} {m : List (Nat × Nat)} (h : Match a b i' k m) (hi : i ≤ i') : Match a b i k m := by
 cases h with
 | nil => exact .nil _ _
 | cons _ _ p m h1 h2 h3 h4 he hm => exact .cons i k p m (by omega) h2 h3 h4 he hm
def lsF (g : Nat → Option Nat) : Nat → Nat → List (Nat × Nat)
 | _, 0 => []
 | i, d + 1 => match g i with
  | none => lsF g (i + 1) d
  | some u => (i, u) :: lsF g (i + 1) d
theorem lsF_match {a b : List ByteArray} {g : Nat → Option Nat} : ∀ (d i k : Nat), (∀ j u, i ≤ j → g j = some u → k ≤ u ∧ ∃ (h1 : j < a.length) (h2 : u < b.length), a[j] = b[u]) → (∀ j l u v, i ≤ j → j < l → g j = some u → g l = some v → u < v) → Match a b i k (lsF g i d)
 | 0, i, k, _, _ => .nil _ _
 | d + 1, i, k, hv, hm => by
  unfold lsF
  cases e : g i with
  | none => exact match_weak (lsF_match d (i + 1) k (fun j u h => hv j u (by omega)) (fun j l u v h => hm j l u v (by omega))) (by omega)
  | some u =>
   obtain ⟨hk, h1, h2, he⟩ := hv i u (Nat.le_refl _) e
   exact .cons i k (i, u) _ (Nat.le_refl _) hk h1 h2 he (lsF_match d (i + 1) (u + 1) (fun j v hj hg => ⟨hm i j u v (Nat.le_refl _) (by omega) e hg, (hv j v (by omega) hg).2⟩) (fun j l u v h => hm j l u v (by omega)))
theorem lsF_congr {g g' : Nat → Option Nat} : ∀ (d i : Nat), (∀ j, i ≤ j → g j = g' j) → lsF g i d = lsF g' i d
 | 0, _, _ => rfl
 | d + 1, i, h => by
  unfold lsF
  rw [h i (Nat.le_refl _), lsF_congr d (i + 1) (fun j hj => h j (by omega))]
theorem ls_ge {a b : List ByteArray} : ∀ (d i k : Nat) (m : List (Nat × Nat)), i + d = a.length → Match a b i k m → m.length ≤ (lsF (pt m) i d).length
 | 0, i, k, m, hd, h => by
  cases h with
  | nil => exact Nat.zero_le _
  | cons _ _ p m h1 h2 h3 h4 he hm => omega
 | d + 1, i, k, m, hd, h => by
  cases h with
  | nil => exact Nat.zero_le _
  | cons _ _ p m h1 h2 h3 h4 he hm =>
   unfold lsF
   by_cases e : p.1 = i
   ·have e1 : pt (p :: m) i = some p.2 := by
     unfold pt
     rw [if_pos e]
    have e2 : lsF (pt (p :: m)) (i + 1) d = lsF (pt m) (i + 1) d := lsF_congr d (i + 1) (fun j hj => by
     rw [pt, if_neg (by omega)])
    rw [e1, e2]
    have := ls_ge d (i + 1) (p.2 + 1) m (by omega) (e ▸ hm)
    simp only [List.length_cons]
    omega
   ·have e1 : pt (p :: m) i = none := by
     rw [pt, if_neg e]
     exact pt_lt hm i (by omega)
    rw [e1]
    exact ls_ge d (i + 1) k (p :: m) (by omega) (.cons _ _ p m (by omega) h2 h3 h4 he hm)
theorem lsF_le {g g' : Nat → Option Nat} : ∀ (d i : Nat), (∀ j, i ≤ j → g' j = none → g j = none) → (lsF g i d).length ≤ (lsF g' i d).length
 | 0, _, _ => Nat.le_refl _
 | d + 1, i, h => by
  have ih := lsF_le d (i + 1) (fun j hj => h j (by omega))
  have hi := h i (Nat.le_refl _)
  unfold lsF
  cases e' : g' i with
  | none =>
   rw [hi e']
   exact ih
  | some v =>
   cases e : g i with
   | none => simp only [List.length_cons]; omega
   | some u => simp only [List.length_cons]; omega
theorem lsF_lt {g g' : Nat → Option Nat} (j : Nat) : ∀ (d i : Nat), i ≤ j → j < i + d → (∀ j, i ≤ j → g' j = none → g j = none) → g j = none → g' j ≠ none → (lsF g i d).length < (lsF g' i d).length
 | 0, _, _, _, _, _, _ => by omega
 | d + 1, i, h1, h2, h, hn, hs => by
  by_cases e : i = j
  ·subst e
   have ih := lsF_le d (i + 1) (fun j hj => h j (by omega))
   unfold lsF
   rw [hn]
   cases e' : g' i with
   | none => exact absurd e' hs
   | some v => simp only [List.length_cons]; omega
  ·have ih := lsF_lt j d (i + 1) (by omega) (by omega) (fun j hj => h j (by omega)) hn hs
   have hi := h i (Nat.le_refl _)
   unfold lsF
   cases e' : g' i with
   | none =>
    rw [hi e']
    exact ih
   | some v =>
    cases e : g i with
    | none => simp only [List.length_cons]; omega
    | some u => simp only [List.length_cons]; omega
structure Part (a b : List ByteArray) (m : List (Nat × Nat)) (i t p : Nat) : Prop where
 hit : i ≤ t
 ht : t ≤ a.length
 hpb : p + (t - i) ≤ b.length
 lo : ∀ j u, pt m j = some u → j < i → u < p
 up : ∀ j u, pt m j = some u → t ≤ j → p + (t - i) ≤ u
 he : ∀ k (h1 : i + k < a.length) (h2 : p + k < b.length), k < t - i → a[i + k] = b[p + k]
theorem fill {a b : List ByteArray} {m : List (Nat × Nat)} (h : Greedy a b 0 0 m) {i t p : Nat} (c : Part a b m i t p) (j : Nat) (hj1 : i ≤ j) (hj2 : j < t) : pt m j ≠ none := by
 intro hn
 obtain ⟨hit, ht, hpb, lo, up, he⟩ := c
 let g' : Nat → Option Nat := fun x => if i ≤ x ∧ x < t then some (p + (x - i)) else pt m x
 have hin : ∀ x, i ≤ x → x < t → g' x = some (p + (x - i)) := fun x h1 h2 => if_pos ⟨h1, h2⟩
 have hout : ∀ x, ¬ (i ≤ x ∧ x < t) → g' x = pt m x := fun x h1 => if_neg h1
 have hM : Match a b 0 0 (lsF g' 0 a.length) := by
  refine lsF_match a.length 0 0 (fun x u _ hx => ⟨Nat.zero_le _, ?_⟩) (fun x y u v _ hxy hx hy => ?_)
  ·by_cases e : i ≤ x ∧ x < t
   ·rw [hin x e.1 e.2] at hx
    obtain rfl := Option.some.inj hx
    have := he (x - i) (by omega) (by omega) (by omega)
    refine ⟨by omega, by omega, ?_⟩
    rw [← this]
    congr 1
    omega
   ·rw [hout x e] at hx
    exact (pt_some h.match hx).2.2
  ·by_cases e : i ≤ x ∧ x < t
   ·rw [hin x e.1 e.2] at hx
    obtain rfl := Option.some.inj hx
    by_cases e2 : i ≤ y ∧ y < t
    ·rw [hin y e2.1 e2.2] at hy
     obtain rfl := Option.some.inj hy
     omega
    ·rw [hout y e2] at hy
     have := up y v hy (by omega)
     omega
   ·rw [hout x e] at hx
    by_cases e2 : i ≤ y ∧ y < t
    ·rw [hin y e2.1 e2.2] at hy
     obtain rfl := Option.some.inj hy
     have := lo x u hx (by omega)
     omega
    ·rw [hout y e2] at hy
     exact pt_mono h.match hx hy hxy
 have h1 := hM.length_le
 have h2 := h.length
 have h3 := ls_ge a.length 0 0 m (by omega) h.match
 have h4 := lsF_lt (g := pt m) (g' := g') j a.length 0 (Nat.zero_le _) (by omega) (fun x _ hx => by
  by_cases e : i ≤ x ∧ x < t
  ·rw [hin x e.1 e.2] at hx
   cases hx
  ·rw [hout x e] at hx
   exact hx) hn (by rw [hin j hj1 hj2]; exact fun e => nomatch e)
 omega
theorem fill_id {a b : List ByteArray} {m : List (Nat × Nat)} (h : Greedy a b 0 0 m) {i t p : Nat} (c : Part a b m i t p) (hin : ∀ j u, i ≤ j → j < t → pt m j = some u → p ≤ u ∧ u < p + (t - i)) (k : Nat) (hk : k < t - i) : pt m (i + k) = some (p + k) := by
 have ex : ∀ k, k < t - i → ∃ u, pt m (i + k) = some u := fun k hk => Option.ne_none_iff_exists'.1 (fill h c (i + k) (by omega) (by omega))
 have lo : ∀ k u, k < t - i → pt m (i + k) = some u → p + k ≤ u := by
  intro k
  induction k with
  | zero => exact fun u hk hu => (hin i u (Nat.le_refl _) (by omega) hu).1
  | succ k ih =>
   intro u hk hu
   obtain ⟨v, hv⟩ := ex k (by omega)
   have := ih v (by omega) hv
   have := pt_mono h.match hv hu (by omega)
   omega
 have up : ∀ c k u, k + c + 1 = t - i → pt m (i + k) = some u → u + c < p + (t - i) := by
  intro c
  induction c with
  | zero => exact fun k u hk hu => (hin (i + k) u (by omega) (by omega) hu).2
  | succ c ih =>
   intro k u hk hu
   obtain ⟨v, hv⟩ := ex (k + 1) (by omega)
   have := ih (k + 1) v (by omega) hv
   have := pt_mono h.match hu hv (by omega)
   omega
 obtain ⟨u, hu⟩ := ex k hk
 have h1 := lo k u hk hu
 have h2 := up (t - i - 1 - k) k u (by omega) hu
 rw [hu, Option.some.injEq]
 omega
end Go.Proofs.Ytahpbpacjciddaa.Pr
end
section
namespace Go.Proofs.Ytahpbpacjciddaa.Pr
open Go.RowKit Go.Proofs.YtahpbpacjciddaaW.PrintWords Go.Proofs.YtahpbpacjciddaaW.PrintLast Go.Proofs.YtahpbpacjciddaaW.PrintMore
set_option linter.unusedVariables false
set_option linter.unusedSimpArgs false
theorem sideOf_append (f : S34 → List ByteArray) (x y : List S34) : sideOf f (x ++ y) = sideOf f x ++ sideOf f y := by
 unfold sideOf
 rw [List.map_append, List.flatten_append]
theorem sideOf_cons (f : S34 → List ByteArray) (x : S34) (y : List S34) : sideOf f (x :: y) = f x ++ sideOf f y := by
 unfold sideOf
 rw [List.map_cons, List.flatten_cons]
theorem segL_id (l : List ByteArray) (x : Nat) : segL l x x = [] := List.drop_eq_nil_of_le (by rw [List.length_take]; omega)
theorem segL_drop (l : List ByteArray) (x : Nat) : segL l x l.length = l.drop x := by
 unfold segL
 rw [List.take_length]
theorem segL_cat (l : List ByteArray) {x y z : Nat} (hxy : x ≤ y) (hyz : y ≤ z) : segL l x y ++ segL l y z = segL l x z := seg_join l hxy hyz
theorem segL_rest (l : List ByteArray) {x y : Nat} (hxy : x ≤ y) (hy : y ≤ l.length) : segL l x y ++ l.drop y = l.drop x := by
 rw [← segL_drop l y, segL_cat l hxy hy, segL_drop]
theorem segL_get (l : List ByteArray) {x y k : Nat} (h : k < y - x) (hy : y ≤ l.length) : (segL l x y)[k]? = l[x + k]? := by
 unfold segL
 rw [List.getElem?_drop, List.getElem?_take_of_lt (by omega)]
theorem segL_same {a b : List ByteArray} {i t p q : Nat} (ht : t ≤ a.length) (hq : q ≤ b.length) (hL : t - i = q - p) (h : segL a i t = segL b p q) : ∀ k (h1 : i + k < a.length) (h2 : p + k < b.length), k < t - i → a[i + k] = b[p + k] := by
 intro k h1 h2 hk
 have e1 := segL_get a hk ht
 have e2 := segL_get b (show k < q - p by omega) hq
 rw [h, e2, List.getElem?_eq_getElem h1, List.getElem?_eq_getElem h2, Option.some.injEq] at e1
 exact e1.symm
theorem gapP_sides (a b c : List ByteArray) (x y : Nat × Nat × Nat) : sideOf S34.f1 (gapP a b c x y) = segL a x.1 y.1 ∧ sideOf S34.f2 (gapP a b c x y) = segL b x.2.1 y.2.1 ∧ sideOf S34.f3 (gapP a b c x y) = segL c x.2.2 y.2.2 := by
 unfold gapP
 by_cases e : y = x
 ·rw [if_pos e, e, segL_id, segL_id, segL_id]
  exact ⟨rfl, rfl, rfl⟩
 ·rw [if_neg e]
  simp [sideOf, mkPiece]
theorem run_kept {a b c : List ByteArray} {m1 m2 : List (Nat × Nat)} (h1 : Match a b 0 0 m1) (h2 : Match a c 0 0 m2) {t q s M : Nat} (g2 : t + M ≤ a.length) (hqb : q + M ≤ b.length) (hsc : s + M ≤ c.length) (hq : ∀ k, k < M → pt m1 (t + k) = some (q + k) ∧ pt m2 (t + k) = some (s + k)) : segL b q (q + M) = segL a t (t + M) ∧ segL c s (s + M) = segL a t (t + M) := by
 refine ⟨seg_match a b t q M g2 hqb (fun k k1 k2 hk => ?_), seg_match a c t s M g2 hsc (fun k k1 k2 hk => ?_)⟩
 ·obtain ⟨_, _, _, _, e⟩ := pt_some h1 (hq k hk).1
  exact e
 ·obtain ⟨_, _, _, _, e⟩ := pt_some h2 (hq k hk).2
  exact e
theorem run_sides {a b c : List ByteArray} {m1 m2 : List (Nat × Nat)} (h1 : Match a b 0 0 m1) (h2 : Match a c 0 0 m2) {i p r : Nat} {R : List S34} (h : Run a b c m1 m2 i p r R) :
  sideOf S34.f1 R = a.drop i ∧ sideOf S34.f2 R = b.drop p ∧ sideOf S34.f3 R = c.drop r := by
 induction h with
 | last i p r hi hp hr hB hn =>
  obtain ⟨e1, e2, e3⟩ := gapP_sides a b c (i, p, r) (a.length, b.length, c.length)
  rw [e1, e2, e3, segL_drop, segL_drop, segL_drop]
  exact ⟨rfl, rfl, rfl⟩
 | next i p r t q s M R hB g1 g2 hM hn hq hs hp hr hqb hsc hR ih =>
  obtain ⟨e1, e2, e3⟩ := gapP_sides a b c (i, p, r) (t, q, s)
  obtain ⟨k1, k2⟩ := run_kept h1 h2 g2 hqb hsc hq
  obtain ⟨i1, i2, i3⟩ := ih
  rw [sideOf_append, sideOf_append, sideOf_append, sideOf_cons, sideOf_cons, sideOf_cons, e1, e2, e3, i1, i2, i3]
  refine ⟨?_, ?_, ?_⟩
  ·show segL a i t ++ (segL a t (t + M) ++ _) = _
   rw [segL_rest a (by omega) g2, segL_rest a g1 (by omega)]
  ·show segL b p q ++ (segL a t (t + M) ++ _) = _
   rw [← k1, segL_rest b (by omega) hqb, segL_rest b hp (by omega)]
  ·show segL c r s ++ (segL a t (t + M) ++ _) = _
   rw [← k2, segL_rest c (by omega) hsc, segL_rest c hr (by omega)]
theorem run_pieces {a b c : List ByteArray} {m1 m2 : List (Nat × Nat)} (h1 : Match a b 0 0 m1) (h2 : Match a c 0 0 m2) {i p r : Nat} {R : List S34} (h : Run a b c m1 m2 i p r R) :
  ∀ x ∈ R, ∃ i t p q r s, x = mkPiece (segL a i t) (segL b p q) (segL c r s) ∧ 0 < x.f1.length + x.f2.length + x.f3.length := by
 have hg : ∀ i p r t q s, i ≤ t → t ≤ a.length → p ≤ q → q ≤ b.length → r ≤ s → s ≤ c.length → ∀ x ∈ gapP a b c (i, p, r) (t, q, s), ∃ i t p q r s, x = mkPiece (segL a i t) (segL b p q) (segL c r s) ∧ 0 < x.f1.length + x.f2.length + x.f3.length := fun i p r t q s h1 h2 h3 h4 h5 h6 x hx => by
  obtain ⟨rfl, hne⟩ := gapP_mem hx
  refine ⟨i, t, p, q, r, s, rfl, ?_⟩
  have e1 : (segL a i t).length = t - i := segL_len h2
  have e2 : (segL b p q).length = q - p := segL_len h4
  have e3 : (segL c r s).length = s - r := segL_len h6
  show 0 < (segL a i t).length + (segL b p q).length + (segL c r s).length
  have : ¬ (t = i ∧ q = p ∧ s = r) := fun e => hne (by rw [e.1, e.2.1, e.2.2])
  omega
 induction h with
 | last i p r hi hp hr hB hn => exact hg i p r _ _ _ hi (Nat.le_refl _) hp (Nat.le_refl _) hr (Nat.le_refl _)
 | next i p r t q s M R hB g1 g2 hM hn hq hs hp hr hqb hsc hR ih =>
  intro x hx
  rcases List.mem_append.1 hx with hx | hx
  ·exact hg i p r t q s g1 (by omega) hp (by omega) hr (by omega) x hx
  ·rcases List.mem_cons.1 hx with rfl | hx
   ·obtain ⟨k1, k2⟩ := run_kept h1 h2 g2 hqb hsc hq
    refine ⟨t, t + M, q, q + M, s, s + M, ?_, ?_⟩
    ·rw [k1, k2]
     unfold mkPiece
     rw [kind_kept]
    ·have e1 : (segL a t (t + M)).length = M := by rw [segL_len g2]; omega
     show 0 < (segL a t (t + M)).length + (segL a t (t + M)).length + (segL a t (t + M)).length
     omega
   ·exact ih x hx
theorem mem_bytes {l : List ByteArray} {s : ByteArray} (h : s ∈ l) : s.size ≤ bytesIn l := by
 unfold bytesIn
 induction l with
 | nil => cases h
 | cons x l ih =>
  rw [List.map_cons, List.sum_cons]
  rcases List.mem_cons.1 h with rfl | h
  ·omega
  ·have := ih h
   omega
theorem segL_mem {l : List ByteArray} {x y : Nat} {s : ByteArray} (h : s ∈ segL l x y) : s ∈ l := List.mem_of_mem_take (List.mem_of_mem_drop h)
theorem plain_seg {l : List ByteArray} (h : linesErr l = 0) (x y : Nat) : mplainB (segL l x y) = true := by
 obtain ⟨h1, h2, h3, h4⟩ := linesErr_zero h
 have hl := segL_le l x y
 unfold mplainB
 rw [decide_eq_true (by omega), Bool.true_and, Bool.not_eq_true', List.any_eq_false]
 intro s hs
 have hm := segL_mem hs
 have hb := mem_bytes hm
 have hf : feedy s = false := by
  have := List.any_eq_false.1 h4 s hm
  simpa using this
 unfold widey
 rw [hf, decide_eq_false (by omega)]
 exact Bool.false_ne_true
theorem mcheck_ok {a b c : List ByteArray} (ha : linesErr a = 0) (hb : linesErr b = 0) (hc : linesErr c = 0) : merge_Check.f (mergeOf a b c) = some 0 := by
 have hr := (mergeOf_run a b c).1
 have hl := (run_short hr).1
 obtain ⟨l1, _⟩ := linesErr_zero ha
 unfold merge_Check.f
 rw [if_neg (by omega), if_neg]
 rw [Bool.not_eq_true, List.any_eq_false]
 intro x hx
 obtain ⟨i, t, p, q, r, s, rfl, hpos⟩ := run_pieces (bestOf_greedy a b).match (bestOf_greedy a c).match hr x hx
 unfold mbad
 unfold mkPiece at hpos ⊢
 simp only at hpos ⊢
 rw [plain_seg ha, plain_seg hb, plain_seg hc, decide_eq_false (fun e => e rfl), decide_eq_false (by omega)]
 exact Bool.false_ne_true
theorem kind_one {x y z : List ByteArray} (h : kindB x y z = 1) : x = y ∧ x = z := by
 unfold kindB at h
 by_cases e1 : y = z
 ·by_cases e2 : x = z
  ·exact ⟨by rw [e1, e2], e2⟩
  ·exfalso
   rw [decide_eq_true e1, decide_eq_false e2] at h
   cases hd : decide (x = y) <;> rw [hd] at h <;> revert h <;> decide
 ·exfalso
  rw [decide_eq_false e1] at h
  cases hd : decide (x = y) <;> cases hd2 : decide (x = z) <;> rw [hd, hd2] at h <;> revert h <;> decide
def resP (x : S34) : List ByteArray := if x.f0 = 3 then x.f3 else x.f2
theorem kind_12 {x z : List ByteArray} : kindB x x z ≠ 5 ∧ (if kindB x x z = 3 then z else x) = z := by
 by_cases e : x = z
 ·subst e
  rw [kind_kept]
  exact ⟨by decide, rfl⟩
 ·have hk : kindB x x z = 3 := by
   unfold kindB
   rw [decide_eq_false e, decide_eq_true rfl]
   rfl
  rw [hk]
  exact ⟨by decide, rfl⟩
theorem kind_13 {x y : List ByteArray} : kindB x y x ≠ 5 ∧ (if kindB x y x = 3 then x else y) = y := by
 by_cases e : x = y
 ·subst e
  rw [kind_kept]
  exact ⟨by decide, rfl⟩
 ·have hk : kindB x y x = 2 := by
   unfold kindB
   rw [decide_eq_false (Ne.symm e), decide_eq_true rfl, decide_eq_false e]
   rfl
  rw [hk]
  exact ⟨by decide, rfl⟩
theorem kind_23 {x y : List ByteArray} : kindB x y y ≠ 5 ∧ (if kindB x y y = 3 then y else y) = y := by
 refine ⟨?_, by split <;> rfl⟩
 by_cases e : x = y
 ·subst e
  rw [kind_kept]
  decide
 ·have hk : kindB x y y = 4 := by
   unfold kindB
   rw [decide_eq_true rfl, decide_eq_false e]
   rfl
  rw [hk]
  decide
def Alt : List Bool → Prop
 | [] => True
 | [_] => True
 | x :: y :: l => x ≠ y ∧ Alt (y :: l)
def keptP (x : S34) : Bool := x.f0 == 1
theorem pt_least {a b : List ByteArray} {m : List (Nat × Nat)} (h : Match a b 0 0 m) {f u : Nat} (hf : pt m f = some u) {j v : Nat} (hj : pt m j = some v) (hjf : j < f + 1) : v < u + 1 := by
 by_cases e : j = f
 ·subst e
  rw [hj, Option.some.injEq] at hf
  omega
 ·have := pt_mono h hj hf (by omega)
  omega
theorem gap_part {a b : List ByteArray} {m : List (Nat × Nat)} (h : Match a b 0 0 m) {i p t q : Nat} (hB : i = 0 ∧ p = 0 ∨ ∃ f u, i = f + 1 ∧ p = u + 1 ∧ pt m f = some u) (hit : i ≤ t) (ht : t ≤ a.length) (hq : q ≤ b.length) (hpq : p ≤ q) (hQ : pt m t = some q ∨ t = a.length ∧ q = b.length) (hL : t - i = q - p) (he : segL a i t = segL b p q) : Part a b m i t p := by
 refine ⟨hit, ht, by omega, fun j u hj hji => ?_, fun j u hj hjt => ?_, segL_same ht hq hL he⟩
 ·rcases hB with ⟨rfl, rfl⟩ | ⟨f, v, rfl, rfl, hf⟩
  ·omega
  ·exact pt_least h hf hj hji
 ·rcases hQ with hQ | ⟨rfl, rfl⟩
  ·by_cases e : j = t
   ·subst e
    rw [hj, Option.some.injEq] at hQ
    omega
   ·have := pt_mono h hQ hj (by omega)
    omega
  ·obtain ⟨_, _, g, _⟩ := pt_some h hj
   omega
theorem gap_diff {a b c : List ByteArray} {m1 m2 : List (Nat × Nat)} (g1 : Greedy a b 0 0 m1) (g2 : Greedy a c 0 0 m2) {i p r t q s : Nat} (hB : Bnd m1 m2 i p r) (hit : i ≤ t) (ht : t ≤ a.length) (hpq : p ≤ q) (hq : q ≤ b.length) (hrs : r ≤ s) (hs : s ≤ c.length)
  (hQ : pt m1 t = some q ∧ pt m2 t = some s ∨ t = a.length ∧ q = b.length ∧ s = c.length) (hn : ∀ j, i ≤ j → j < t → pt m1 j = none ∨ pt m2 j = none) (hne : ¬ (t = i ∧ q = p ∧ s = r)) : kindB (segL a i t) (segL b p q) (segL c r s) ≠ 1 := by
 intro hk
 obtain ⟨e1, e2⟩ := kind_one hk
 have l1 : (segL a i t).length = t - i := segL_len ht
 have l2 : (segL b p q).length = q - p := segL_len hq
 have l3 : (segL c r s).length = s - r := segL_len hs
 rw [e1] at l1
 have l1' := l1
 rw [← e1, e2] at l1'
 have p1 : Part a b m1 i t p := by
  refine gap_part g1.match ?_ hit ht hq hpq ?_ (by omega) e1
  ·rcases hB with ⟨rfl, rfl, _⟩ | ⟨f, u, v, e1, e2, e3, e4, e5⟩
   ·exact .inl ⟨rfl, rfl⟩
   ·exact .inr ⟨f, u, e1, e2, e4⟩
  ·rcases hQ with ⟨h, _⟩ | ⟨h, h', _⟩
   ·exact .inl h
   ·exact .inr ⟨h, h'⟩
 have p2 : Part a c m2 i t r := by
  refine gap_part g2.match ?_ hit ht hs hrs ?_ (by omega) e2
  ·rcases hB with ⟨rfl, _, rfl⟩ | ⟨f, u, v, e1, e2, e3, e4, e5⟩
   ·exact .inl ⟨rfl, rfl⟩
   ·exact .inr ⟨f, v, e1, e3, e5⟩
  ·rcases hQ with ⟨_, h⟩ | ⟨h, _, h'⟩
   ·exact .inl h
   ·exact .inr ⟨h, h'⟩
 have hlt : i < t := by omega
 rcases hn i (Nat.le_refl _) hlt with h | h
 ·exact fill g1 p1 i (Nat.le_refl _) hlt h
 ·exact fill g2 p2 i (Nat.le_refl _) hlt h
theorem run_alt {a b c : List ByteArray} {m1 m2 : List (Nat × Nat)} (g1 : Greedy a b 0 0 m1) (g2 : Greedy a c 0 0 m2) {i p r : Nat} {R : List S34} (h : Run a b c m1 m2 i p r R) :
  Alt (R.map keptP) ∧ (¬ (pt m1 i = some p ∧ pt m2 i = some r) → ∀ y l, R.map keptP = y :: l → y = false) := by
 have hg : ∀ i p r t q s, Bnd m1 m2 i p r → i ≤ t → t ≤ a.length → p ≤ q → q ≤ b.length → r ≤ s → s ≤ c.length → (pt m1 t = some q ∧ pt m2 t = some s ∨ t = a.length ∧ q = b.length ∧ s = c.length) → (∀ j, i ≤ j → j < t → pt m1 j = none ∨ pt m2 j = none) → gapP a b c (i, p, r) (t, q, s) = [] ∧ t = i ∧ q = p ∧ s = r ∨ ∃ g, gapP a b c (i, p, r) (t, q, s) = [g] ∧ keptP g = false := fun i p r t q s hB h1 h2 h3 h4 h5 h6 hQ hn => by
  unfold gapP
  by_cases e : (t, q, s) = (i, p, r)
  ·rw [if_pos e]
   simp only [Prod.mk.injEq] at e
   exact .inl ⟨rfl, e⟩
  ·rw [if_neg e]
   refine .inr ⟨_, rfl, ?_⟩
   unfold keptP mkPiece
   exact beq_eq_false_iff_ne.2 (gap_diff (t := t) (q := q) (s := s) g1 g2 hB h1 h2 h3 h4 h5 h6 hQ hn (fun h => e (by rw [h.1, h.2.1, h.2.2])))
 induction h with
 | last i p r hi hp hr hB hn =>
  rcases hg i p r _ _ _ hB hi (Nat.le_refl _) hp (Nat.le_refl _) hr (Nat.le_refl _) (.inr ⟨rfl, rfl, rfl⟩) hn with ⟨e, _⟩ | ⟨g, e, hk⟩
  ·rw [e]
   exact ⟨trivial, fun _ y l h => nomatch h⟩
  ·rw [e]
   refine ⟨trivial, fun _ y l h => ?_⟩
   injection h with h _
   rw [← h, hk]
 | next i p r t q s M R hB h1 h2 hM hn hq hs hp hr hqb hsc hR ih =>
  obtain ⟨ih1, ih2⟩ := ih
  have hA : Alt ((⟨1, segL a t (t + M), segL a t (t + M), segL a t (t + M)⟩ :: R : List S34).map keptP) := by
   rw [List.map_cons]
   cases hl : R.map keptP with
   | nil => trivial
   | cons y l =>
    rw [hl] at ih1
    refine ⟨?_, ih1⟩
    rw [ih2 hs y l hl]
    exact Bool.noConfusion
  rcases hg i p r t q s hB h1 (by omega) hp (by omega) hr (by omega) (.inl (hq 0 (by omega))) hn with ⟨e, rfl, rfl, rfl⟩ | ⟨g, e, hk⟩
  ·rw [e, List.nil_append]
   exact ⟨hA, fun h => absurd (hq 0 (by omega)) h⟩
  ·rw [e, List.singleton_append, List.map_cons]
   refine ⟨⟨?_, hA⟩, fun _ y l h => ?_⟩
   ·rw [hk]
    exact Bool.noConfusion
   ·injection h with h _
    rw [← h, hk]
end Go.Proofs.Ytahpbpacjciddaa.Pr
end
section
namespace Go.Proofs.Ytahpbpacjciddaa.Pr
open Go.RowKit Go.Proofs.YtahpbpacjciddaaW.PrintWords Go.Proofs.YtahpbpacjciddaaW.PrintLast Go.Proofs.YtahpbpacjciddaaW.PrintMore
set_option linter.unusedVariables false
set_option linter.unusedSimpArgs false
def clashN (l : List S34) : Nat := l.countP (fun x => decide (x.f0 = 5))
def resOf (l : List S34) : List ByteArray := sideOf resP l
def joinRes (l : List ByteArray) : List ByteArray × Int := if linesErr l = 0 then (l, 0) else ([], linesErr l)
def resultR (l : List S34) : List ByteArray × Int := if clashN l = 0 then joinRes (resOf l) else ([], 26)
theorem clash_loop (l : List S34) (hl : l.length ≤ 130) : ∀ (d i n : Nat), i + d = l.length → n ≤ i → Ev (fun k => merge_Clashes.l0 k (n : Int) l (l.length : Int) (i : Int)) (((n + clashN (l.drop i) : Nat) : Int), (0 : Int)) := by
 intro d
 induction d with
 | zero =>
  intro i n h hn
  refine Ev.step (fun k => by rw [merge_Clashes.l0]) ?_
  refine Ev.neg (by omega) (Ev.rt ?_)
  rw [List.drop_eq_nil_of_le (by omega)]
  rfl
 | succ d ih =>
  intro i n h hn
  have hlt : i < l.length := by omega
  have hd : l.drop i = l[i] :: l.drop (i + 1) := List.drop_eq_getElem_cons hlt
  refine Ev.step (fun k => by rw [merge_Clashes.l0]) ?_
  refine Ev.pos (by omega) (Ev.pos (by omega) (Ev.pos (by omega) ?_))
  rw [rd_pieces l i hlt, hd]
  have ei : wrap64 ((i : Int) + 1) = ((i + 1 : Nat) : Int) := by rw [w64 (by omega)]; omega
  rw [ei]
  by_cases e : l[i].f0 = 5
  ·have en : wrap64 ((n : Int) + 1) = ((n + 1 : Nat) : Int) := by rw [w64 (by omega)]; omega
   rw [en]
   refine Ev.pos e ?_
   have := ih (i + 1) (n + 1) (by omega) (by omega)
   have hc : n + clashN (l[i] :: l.drop (i + 1)) = n + 1 + clashN (l.drop (i + 1)) := by
    unfold clashN
    rw [List.countP_cons, if_pos (decide_eq_true e)]
    omega
   rw [hc]
   exact this
  ·refine Ev.neg e ?_
   have := ih (i + 1) n (by omega) (by omega)
   have hc : clashN (l[i] :: l.drop (i + 1)) = clashN (l.drop (i + 1)) := by
    unfold clashN
    rw [List.countP_cons, if_neg (by simpa using e)]
    rfl
   rw [hc]
   exact this
theorem clashes_ev (l : List S34) (hc : merge_Check.f l = some 0) : Ev (fun k => merge_Clashes.f k l) ((clashN l : Int), (0 : Int)) := by
 have hl := (mcheck_zero hc).1
 unfold merge_Clashes.f
 refine Ev.bc hc (Ev.pos rfl ?_)
 have := clash_loop l hl l.length 0 0 (by omega) (Nat.le_refl _)
 rw [List.drop_zero, Nat.zero_add] at this
 exact this
theorem result_loop (l : List S34) (hl : l.length ≤ 130) (hin : ∀ x ∈ l, x.f1.length ≤ 60 ∧ x.f2.length ≤ 60 ∧ x.f3.length ≤ 60) : ∀ (d i : Nat) (out : List ByteArray), i + d = l.length → out.length ≤ 60 * i → small (out ++ resOf (l.drop i)) → Ev (fun k => merge_Result.l0 k out l (l.length : Int) (i : Int)) (joinRes (out ++ resOf (l.drop i))) := by
 intro d
 induction d with
 | zero =>
  intro i out h ho hs
  have e0 : resOf (l.drop i) = [] := by
   rw [List.drop_eq_nil_of_le (by omega)]
   rfl
  rw [e0, List.append_nil] at hs ⊢
  refine Ev.step (fun k => by rw [merge_Result.l0]) ?_
  obtain ⟨x, hx⟩ := join_snd hs
  refine Ev.neg (by omega) (Ev.bc hx ?_)
  unfold joinRes
  by_cases e : linesErr out = 0
  ·simp only [if_pos e]
   exact Ev.now _
  ·simp only [if_neg e]
   exact Ev.now _
 | succ d ih =>
  intro i out h ho hs
  have hlt : i < l.length := by omega
  have hd : l.drop i = l[i] :: l.drop (i + 1) := List.drop_eq_getElem_cons hlt
  have hx := hin l[i] (List.getElem_mem hlt)
  have he : out ++ resOf (l.drop i) = (out ++ resP l[i]) ++ resOf (l.drop (i + 1)) := by
   rw [hd]
   unfold resOf
   rw [sideOf_cons, List.append_assoc]
  rw [he] at hs ⊢
  refine Ev.step (fun k => by rw [merge_Result.l0]) ?_
  refine Ev.pos (by omega) (Ev.pos (by omega) (Ev.pos (by omega) ?_))
  rw [rd_pieces l i hlt]
  have ei : wrap64 ((i : Int) + 1) = ((i + 1 : Nat) : Int) := by rw [w64 (by omega)]; omega
  rw [ei]
  by_cases e : l[i].f0 = 3
  ·have hr : resP l[i] = l[i].f3 := if_pos e
   rw [hr] at hs ⊢
   exact Ev.pos e (Ev.pos (by omega) (ih (i + 1) _ (by omega) (by rw [List.length_append]; omega) hs))
  ·have hr : resP l[i] = l[i].f2 := if_neg e
   rw [hr] at hs ⊢
   exact Ev.neg e (Ev.pos (by omega) (ih (i + 1) _ (by omega) (by rw [List.length_append]; omega) hs))
theorem result_ev (l : List S34) (hc : merge_Check.f l = some 0) (hs : small (resOf l)) : Ev (fun k => merge_Result.f k l) (resultR l) := by
 obtain ⟨hl, hin⟩ := mcheck_zero hc
 unfold merge_Result.f
 refine Ev.bd (clashes_ev l hc) (Ev.pos rfl ?_)
 unfold resultR
 by_cases e : clashN l = 0
 ·rw [if_pos e]
  refine Ev.neg (by show ¬ ((clashN l : Nat) : Int) > 0; omega) ?_
  have := result_loop l hl hin l.length 0 [] (by omega) (by simp) (by rw [List.drop_zero, List.nil_append]; exact hs)
  rw [List.drop_zero, List.nil_append] at this
  exact this
 ·rw [if_neg e]
  exact Ev.pos (by show ((clashN l : Nat) : Int) > 0; omega) (Ev.now _)
theorem res_mem {a b c : List ByteArray} {s : ByteArray} (h : s ∈ resOf (mergeOf a b c)) : s ∈ b ∨ s ∈ c := by
 unfold resOf sideOf at h
 rw [List.mem_flatten] at h
 obtain ⟨x, hx, hs⟩ := h
 obtain ⟨y, hy, rfl⟩ := List.mem_map.1 hx
 obtain ⟨i, t, p, q, r, u, rfl, _⟩ := run_pieces (bestOf_greedy a b).match (bestOf_greedy a c).match (mergeOf_run a b c).1 y hy
 unfold resP at hs
 split at hs
 ·exact .inr (segL_mem hs)
 ·exact .inl (segL_mem hs)
theorem res_small {a b c : List ByteArray} (hb : small b) (hc : small c) : small (resOf (mergeOf a b c)) := fun s hs => (res_mem hs).elim (hb s) (hc s)
theorem merge_kinds {a b c : List ByteArray} {x : S34} (h : x ∈ mergeOf a b c) : x.f0 = kindB x.f1 x.f2 x.f3 := by
 obtain ⟨i, t, p, q, r, u, rfl, _⟩ := run_pieces (bestOf_greedy a b).match (bestOf_greedy a c).match (mergeOf_run a b c).1 x h
 rfl
theorem mergeR_ok {a b c : List ByteArray} (ha : linesErr a = 0) (hb : linesErr b = 0) (hc : linesErr c = 0) : mergeR a b c = (mergeOf a b c, 0) := if_pos (triErr_zero.2 ⟨ha, hb, hc⟩)
theorem long3_ev (a b c : List ByteArray) (ha : a.length ≤ 9000000000000000000) (hb : b.length ≤ 9000000000000000000) (hc : c.length ≤ 9000000000000000000) : Ev (fun k => sidinglaw18_long.f k a b c) (longOf a || (longOf b || longOf c)) := by
 unfold sidinglaw18_long.f
 refine Ev.bd (long_ev a ha) ?_
 cases longOf a with
 | true => exact Ev.pos rfl (Ev.rt rfl)
 | false =>
  refine Ev.neg Bool.false_ne_true (Ev.bd (long_ev b hb) ?_)
  cases longOf b with
  | true => exact Ev.pos rfl (Ev.rt rfl)
  | false => exact Ev.neg Bool.false_ne_true (Ev.bd (long_ev c hc) (Ev.rt rfl))
theorem fit_ev (a b c : List ByteArray) (ha : a.length ≤ 9000000000000000000) (hb : b.length ≤ 9000000000000000000) (hc : c.length ≤ 9000000000000000000) :
  Ev (fun k => sidinglaw18_fit.f k a b c) false ∨ Ev (fun k => sidinglaw18_fit.f k a b c) true ∧ tiny a ∧ tiny b ∧ tiny c ∧ linesErr a = 0 ∧ linesErr b = 0 ∧ linesErr c = 0 := by
 unfold sidinglaw18_fit.f
 by_cases h1 : (longOf a || (longOf b || longOf c)) = true
 ·exact .inl (Ev.bd (long3_ev a b c ha hb hc) (Ev.pos h1 (Ev.now _)))
 ·have h2 := h1
  rw [Bool.not_eq_true, Bool.or_eq_false_iff, Bool.or_eq_false_iff] at h2
  obtain ⟨na, ta⟩ := longOf_tiny h2.1
  obtain ⟨nb, tb⟩ := longOf_tiny h2.2.1
  obtain ⟨nc, tc⟩ := longOf_tiny h2.2.2
  by_cases e1 : linesErr a = 0
  ·by_cases e2 : linesErr b = 0
   ·by_cases e3 : linesErr c = 0
    ·exact .inr ⟨Ev.bd (long3_ev a b c ha hb hc) (Ev.neg h1 (Ev.bd (rlines_ev a ta) (Ev.pos e1 (Ev.bd (rlines_ev b tb) (Ev.pos e2 (Ev.bd (rlines_ev c tc) (Ev.rt (beq_iff_eq.2 e3)))))))), ta, tb, tc, e1, e2, e3⟩
    ·exact .inl (Ev.bd (long3_ev a b c ha hb hc) (Ev.neg h1 (Ev.bd (rlines_ev a ta) (Ev.pos e1 (Ev.bd (rlines_ev b tb) (Ev.pos e2 (Ev.bd (rlines_ev c tc) (Ev.rt (beq_eq_false_iff_ne.2 e3)))))))))
   ·exact .inl (Ev.bd (long3_ev a b c ha hb hc) (Ev.neg h1 (Ev.bd (rlines_ev a ta) (Ev.pos e1 (Ev.bd (rlines_ev b tb) (Ev.neg e2 (Ev.now _)))))))
  ·exact .inl (Ev.bd (long3_ev a b c ha hb hc) (Ev.neg h1 (Ev.bd (rlines_ev a ta) (Ev.neg e1 (Ev.now _)))))
end Go.Proofs.Ytahpbpacjciddaa.Pr
end
section
namespace Go.Proofs.Ytahpbpacjciddaa.Pr
open Go.RowKit Go.Proofs.YtahpbpacjciddaaW.PrintWords Go.Proofs.YtahpbpacjciddaaW.PrintLast Go.Proofs.YtahpbpacjciddaaW.PrintMore
set_option linter.unusedVariables false
set_option linter.unusedSimpArgs false
theorem gives_ev (a b c want : List ByteArray) (ha : small a) (hb : small b) (hc : small c) (ea : linesErr a = 0) (eb : linesErr b = 0) (ec : linesErr c = 0) (hn : clashN (mergeOf a b c) = 0) (hr : resOf (mergeOf a b c) = want) (ew : linesErr want = 0) : Ev (fun k => sidinglaw18_gives.f k a b c want) true := by
 have hm := merge_ev a b c ha hb hc
 rw [mergeR_ok ea eb ec] at hm
 have hk := mcheck_ok ea eb ec
 have h1 := clashes_ev (mergeOf a b c) hk
 have h2 := result_ev (mergeOf a b c) hk (res_small hb hc)
 unfold resultR joinRes at h2
 rw [if_pos hn, hr, if_pos ew] at h2
 rw [hn] at h1
 obtain ⟨lw, _⟩ := linesErr_zero ew
 unfold sidinglaw18_gives.f
 refine Ev.bd hm (Ev.bd h1 (Ev.bd h2 (Ev.pos rfl (Ev.pos rfl (Ev.pos rfl (Ev.pos rfl (Ev.bd (same_ev want want (by omega)) (Ev.rt (by simp)))))))))
theorem clash_zero {l : List S34} (h : ∀ x ∈ l, x.f0 ≠ 5) : clashN l = 0 := by
 unfold clashN
 rw [List.countP_eq_zero]
 intro x hx
 simpa using h x hx
theorem side_congr {l : List S34} {f g : S34 → List ByteArray} (h : ∀ x ∈ l, f x = g x) : sideOf f l = sideOf g l := by
 unfold sideOf
 rw [List.map_congr_left h]
theorem piece_12 {x : S34} (hk : x.f0 = kindB x.f1 x.f2 x.f3) (h : x.f1 = x.f2) : x.f0 ≠ 5 ∧ resP x = x.f3 := by
 rw [h] at hk
 have := kind_12 (x := x.f2) (z := x.f3)
 rw [← hk] at this
 exact this
theorem piece_13 {x : S34} (hk : x.f0 = kindB x.f1 x.f2 x.f3) (h : x.f1 = x.f3) : x.f0 ≠ 5 ∧ resP x = x.f2 := by
 rw [h] at hk
 have := kind_13 (x := x.f3) (y := x.f2)
 rw [← hk] at this
 exact this
theorem piece_23 {x : S34} (hk : x.f0 = kindB x.f1 x.f2 x.f3) (h : x.f2 = x.f3) : x.f0 ≠ 5 ∧ resP x = x.f2 := by
 rw [← h] at hk
 have := kind_23 (x := x.f1) (y := x.f2)
 rw [← hk] at this
 refine ⟨this.1, ?_⟩
 unfold resP
 rw [← h]
 exact this.2
theorem run_kinds {a b c : List ByteArray} {m1 m2 : List (Nat × Nat)} (h1 : Match a b 0 0 m1) (h2 : Match a c 0 0 m2) {i p r : Nat} {R : List S34} (h : Run a b c m1 m2 i p r R) : ∀ x ∈ R, x.f0 = kindB x.f1 x.f2 x.f3 := fun x hx => by
 obtain ⟨i, t, p, q, r, u, rfl, _⟩ := run_pieces h1 h2 h x hx
 rfl
theorem best_self (a : List ByteArray) {j u : Nat} (h : pt (bestOf a a) j = some u) : u = j := by
 have hg := bestOf_greedy a a
 obtain ⟨_, _, hj, _, _⟩ := pt_some hg.match h
 have c : Part a a (bestOf a a) 0 a.length 0 := ⟨Nat.zero_le _, Nat.le_refl _, by omega, fun _ _ _ h => by omega, fun j u hj hjt => by
  obtain ⟨_, _, g, _⟩ := pt_some hg.match hj
  omega, fun k h1 h2 _ => rfl⟩
 have := fill_id hg c (fun j u _ _ hj => by
  obtain ⟨_, _, _, g, _⟩ := pt_some hg.match hj
  omega) j (by omega)
 rw [Nat.zero_add] at this
 rw [h, Option.some.injEq] at this
 omega
theorem run_same12 {a c : List ByteArray} {m1 m2 : List (Nat × Nat)} (hid : ∀ j u, pt m1 j = some u → u = j) {i p r : Nat} {R : List S34} (h : Run a a c m1 m2 i p r R) : p = i → ∀ x ∈ R, x.f1 = x.f2 := by
 induction h with
 | last i p r hi hp hr hB hn =>
  rintro rfl x hx
  obtain ⟨rfl, _⟩ := gapP_mem hx
  rfl
 | next i p r t q s M R hB g1 g2 hM hn hq hs hp hr hqb hsc hR ih =>
  rintro rfl x hx
  have h0 := (hq 0 (by omega)).1
  have e := hid _ _ h0
  have e2 : q = t := by omega
  subst e2
  rcases List.mem_append.1 hx with hx | hx
  ·obtain ⟨rfl, _⟩ := gapP_mem hx
   rfl
  ·rcases List.mem_cons.1 hx with rfl | hx
   ·rfl
   ·exact ih rfl x hx
theorem run_same13 {a b : List ByteArray} {m1 m2 : List (Nat × Nat)} (hid : ∀ j u, pt m2 j = some u → u = j) {i p r : Nat} {R : List S34} (h : Run a b a m1 m2 i p r R) : r = i → ∀ x ∈ R, x.f1 = x.f3 := by
 induction h with
 | last i p r hi hp hr hB hn =>
  rintro rfl x hx
  obtain ⟨rfl, _⟩ := gapP_mem hx
  rfl
 | next i p r t q s M R hB g1 g2 hM hn hq hs hp hr hqb hsc hR ih =>
  rintro rfl x hx
  have h0 := (hq 0 (by omega)).2
  have e := hid _ _ h0
  have e2 : s = t := by omega
  subst e2
  rcases List.mem_append.1 hx with hx | hx
  ·obtain ⟨rfl, _⟩ := gapP_mem hx
   rfl
  ·rcases List.mem_cons.1 hx with rfl | hx
   ·rfl
   ·exact ih rfl x hx
theorem run_same23 {a b : List ByteArray} {m : List (Nat × Nat)} {i p r : Nat} {R : List S34} (h : Run a b b m m i p r R) : p = r → ∀ x ∈ R, x.f2 = x.f3 := by
 induction h with
 | last i p r hi hp hr hB hn =>
  rintro rfl x hx
  obtain ⟨rfl, _⟩ := gapP_mem hx
  rfl
 | next i p r t q s M R hB g1 g2 hM hn hq hs hp hr hqb hsc hR ih =>
  rintro rfl x hx
  obtain ⟨h0, h0'⟩ := hq 0 (by omega)
  obtain rfl : q = s := Option.some.inj (h0.symm.trans h0')
  rcases List.mem_append.1 hx with hx | hx
  ·obtain ⟨rfl, _⟩ := gapP_mem hx
   rfl
  ·rcases List.mem_cons.1 hx with rfl | hx
   ·rfl
   ·exact ih rfl x hx
theorem merge_12 (a c : List ByteArray) : clashN (mergeOf a a c) = 0 ∧ resOf (mergeOf a a c) = c := by
 have hr := (mergeOf_run a a c).1
 have h1 := (bestOf_greedy a a).match
 have h2 := (bestOf_greedy a c).match
 have hs := run_same12 (fun j u h => best_self a h) hr rfl
 have hk := run_kinds h1 h2 hr
 refine ⟨clash_zero (fun x hx => (piece_12 (hk x hx) (hs x hx)).1), ?_⟩
 unfold resOf
 rw [side_congr (fun x hx => (piece_12 (hk x hx) (hs x hx)).2), (run_sides h1 h2 hr).2.2, List.drop_zero]
theorem merge_13 (a b : List ByteArray) : clashN (mergeOf a b a) = 0 ∧ resOf (mergeOf a b a) = b := by
 have hr := (mergeOf_run a b a).1
 have h1 := (bestOf_greedy a b).match
 have h2 := (bestOf_greedy a a).match
 have hs := run_same13 (fun j u h => best_self a h) hr rfl
 have hk := run_kinds h1 h2 hr
 refine ⟨clash_zero (fun x hx => (piece_13 (hk x hx) (hs x hx)).1), ?_⟩
 unfold resOf
 rw [side_congr (fun x hx => (piece_13 (hk x hx) (hs x hx)).2), (run_sides h1 h2 hr).2.1, List.drop_zero]
theorem merge_23 (a b : List ByteArray) : clashN (mergeOf a b b) = 0 ∧ resOf (mergeOf a b b) = b := by
 have hr := (mergeOf_run a b b).1
 have h1 := (bestOf_greedy a b).match
 have hs := run_same23 hr rfl
 have hk := run_kinds h1 h1 hr
 refine ⟨clash_zero (fun x hx => (piece_23 (hk x hx) (hs x hx)).1), ?_⟩
 unfold resOf
 rw [side_congr (fun x hx => (piece_23 (hk x hx) (hs x hx)).2), (run_sides h1 h1 hr).2.1, List.drop_zero]
end Go.Proofs.Ytahpbpacjciddaa.Pr
end
section
namespace Go.Proofs.Ytahpbpacjciddaa.Pr
open Go.RowKit Go.Proofs.YtahpbpacjciddaaW.PrintWords Go.Proofs.YtahpbpacjciddaaW.PrintLast Go.Proofs.YtahpbpacjciddaaW.PrintMore
set_option linter.unusedVariables false
set_option linter.unusedSimpArgs false
theorem kind_ev (b o t : List ByteArray) (hb : b.length ≤ 100000) (ho : o.length ≤ 100000) (ht : t.length ≤ 100000) : Ev (fun k => sidingref18_Kind.f k b o t) (kindB b o t) := by
 unfold sidingref18_Kind.f
 refine Ev.bd (same_ev o t (by omega)) (Ev.bd (same_ev t b (by omega)) (Ev.bd (same_ev o b (by omega)) ?_))
 unfold kindB
 by_cases h1 : o = t
 ·subst h1
  refine Ev.pos (decide_eq_true rfl) (Ev.step (fun k => by rw [sidingref18_Kind.j0]) ?_)
  by_cases h2 : o = b
  ·subst h2
   refine Ev.pos (decide_eq_true rfl) (Ev.rt ?_)
   rw [decide_eq_true rfl]
   rfl
  ·refine Ev.neg (by simp [h2]) (Ev.pos (decide_eq_true rfl) (Ev.rt ?_))
   rw [decide_eq_true rfl, decide_eq_false (Ne.symm h2)]
   rfl
 ·refine Ev.neg (by simp [h1]) (Ev.step (fun k => by rw [sidingref18_Kind.j0]) (Ev.neg Bool.false_ne_true (Ev.neg (by simp [h1]) ?_)))
  rw [decide_eq_false h1]
  by_cases h2 : t = b
  ·subst h2
   refine Ev.pos (decide_eq_true rfl) (Ev.rt ?_)
   rw [decide_eq_true rfl, decide_eq_false (Ne.symm h1)]
   rfl
  ·refine Ev.neg (by simp [h2]) ?_
   rw [decide_eq_false (Ne.symm h2)]
   by_cases h3 : o = b
   ·subst h3
    refine Ev.pos (decide_eq_true rfl) (Ev.rt ?_)
    rw [decide_eq_true rfl]
    rfl
   ·refine Ev.neg (by simp [h3]) (Ev.rt ?_)
    rw [decide_eq_false (Ne.symm h3)]
    rfl
end Go.Proofs.Ytahpbpacjciddaa.Pr
end
section
namespace Go.Proofs.Ytahpbpacjciddaa.Pr
open Go.RowKit Go.Proofs.YtahpbpacjciddaaW.PrintWords Go.Proofs.YtahpbpacjciddaaW.PrintLast Go.Proofs.YtahpbpacjciddaaW.PrintMore
set_option linter.unusedVariables false
set_option linter.unusedSimpArgs false
theorem plain_loop (l : List ByteArray) (hl : l.length ≤ 60) (hb : ∀ s ∈ l, s.size ≤ 2000) (hf : ref13_Feed.f l = some false) : ∀ (d i : Nat), i + d = l.length → Ev (fun k => sidingref15_Plain.l0 k l (i : Int)) true := by
 intro d
 induction d with
 | zero =>
  intro i h
  refine Ev.step (fun k => by rw [sidingref15_Plain.l0]) ?_
  exact Ev.neg (by omega) (Ev.pos (by omega) (Ev.bc hf (Ev.rt rfl)))
 | succ d ih =>
  intro i h
  have hlt : i < l.length := by omega
  have hs := hb l[i] (List.getElem_mem hlt)
  refine Ev.step (fun k => by rw [sidingref15_Plain.l0]) ?_
  have ei : wrap64 ((i : Int) + 1) = ((i + 1 : Nat) : Int) := by rw [w64 (by omega)]; omega
  have er : rdOf ByteArray.empty l (i : Int) = l[i] := rdOf_at _ _ _ hlt
  rw [er, ei]
  exact Ev.pos (by omega) (Ev.pos (by omega) (Ev.neg (by omega) (ih (i + 1) (by omega))))
theorem plain_ev {l : List ByteArray} (h : linesErr l = 0) (x y : Nat) : Ev (fun k => sidingref15_Plain.f k (segL l x y)) true := by
 have hp := plain_seg h x y
 unfold mplainB at hp
 rw [Bool.and_eq_true, decide_eq_true_eq, Bool.not_eq_true', List.any_eq_false] at hp
 have hs : ∀ s ∈ segL l x y, s.size ≤ 2000 ∧ feedy s = false := fun s hs => by
  have := hp.2 s hs
  unfold widey at this
  rw [Bool.not_eq_true, Bool.or_eq_false_iff, decide_eq_false_iff_not] at this
  exact ⟨by omega, this.2⟩
 unfold sidingref15_Plain.f
 refine plain_loop (segL l x y) hp.1 (fun s h => (hs s h).1) ?_ _ 0 (Nat.zero_add _)
 rw [feed_ev (segL l x y) (fun s h => by have := (hs s h).1; omega)]
 congr 1
 rw [List.any_eq_false]
 intro s h
 rw [(hs s h).2]
 exact Bool.false_ne_true
theorem valid_ev {a b c : List ByteArray} (ha : linesErr a = 0) (hb : linesErr b = 0) (hc : linesErr c = 0) (i t p q r s : Nat) (hpos : 0 < (segL a i t).length + (segL b p q).length + (segL c r s).length) : Ev (fun k => sidingref18_Valid.f k (kindB (segL a i t) (segL b p q) (segL c r s)) (segL a i t) (segL b p q) (segL c r s)) true := by
 unfold sidingref18_Valid.f
 obtain ⟨la, _⟩ := linesErr_zero ha
 obtain ⟨lb, _⟩ := linesErr_zero hb
 obtain ⟨lc, _⟩ := linesErr_zero hc
 have l1 := segL_le a i t
 have l2 := segL_le b p q
 have l3 := segL_le c r s
 refine Ev.bd (plain_ev ha i t) (Ev.pos rfl (Ev.bd (plain_ev hb p q) (Ev.pos rfl (Ev.bd (plain_ev hc r s) (Ev.pos rfl (Ev.bd (kind_ev _ _ _ (by omega) (by omega) (by omega)) (Ev.pos rfl ?_)))))))
 by_cases h1 : kindB (segL a i t) (segL b p q) (segL c r s) = 1
 ·obtain ⟨e1, e2⟩ := kind_one h1
  rw [← e1, ← e2] at hpos
  exact Ev.pos h1 (Ev.rt (decide_eq_true (by omega)))
 ·exact Ev.neg h1 (Ev.now _)
theorem rcheck_loop (l : List S34) (hl : l.length ≤ 130) (hv : ∀ x ∈ l, Ev (fun k => sidingref18_Valid.f k x.f0 x.f1 x.f2 x.f3) true) : ∀ (d i : Nat), i + d = l.length → Ev (fun k => sidingref18_Check.l0 k l (i : Int)) 0 := by
 intro d
 induction d with
 | zero =>
  intro i h
  refine Ev.step (fun k => by rw [sidingref18_Check.l0]) ?_
  exact Ev.neg (by omega) (Ev.now _)
 | succ d ih =>
  intro i h
  have hlt : i < l.length := by omega
  refine Ev.step (fun k => by rw [sidingref18_Check.l0]) ?_
  have ei : wrap64 ((i : Int) + 1) = ((i + 1 : Nat) : Int) := by rw [w64 (by omega)]; omega
  rw [rd_pieces l i hlt, ei]
  exact Ev.pos (by omega) (Ev.pos (by omega) (Ev.bd (hv l[i] (List.getElem_mem hlt)) (Ev.pos rfl (ih (i + 1) (by omega)))))
theorem rcheck18_ev {a b c : List ByteArray} (ha : linesErr a = 0) (hb : linesErr b = 0) (hc : linesErr c = 0) : Ev (fun k => sidingref18_Check.f k (mergeOf a b c)) 0 := by
 have hr := (mergeOf_run a b c).1
 have hl := (run_short hr).1
 obtain ⟨la, _⟩ := linesErr_zero ha
 unfold sidingref18_Check.f
 refine Ev.neg (by omega) (rcheck_loop _ (by omega) (fun x hx => ?_) (mergeOf a b c).length 0 (Nat.zero_add _))
 obtain ⟨i, t, p, q, r, s, rfl, hpos⟩ := run_pieces (bestOf_greedy a b).match (bestOf_greedy a c).match hr x hx
 exact valid_ev ha hb hc i t p q r s hpos
theorem sides_val {a b c : List ByteArray} (sa : small a) (sb : small b) (sc : small c) (ha : linesErr a = 0) (hb : linesErr b = 0) (hc : linesErr c = 0) : merge_Sides.f (mergeOf a b c) = some (a, b, c, 0) := by
 obtain ⟨e1, e2, e3⟩ := run_sides (bestOf_greedy a b).match (bestOf_greedy a c).match (mergeOf_run a b c).1
 obtain ⟨x, hx⟩ := join_snd sa
 obtain ⟨y, hy⟩ := join_snd sb
 obtain ⟨z, hz⟩ := join_snd sc
 unfold merge_Sides.f
 rw [mcheck_ok ha hb hc, Option.bind_some, if_pos rfl, e1, e2, e3, List.drop_zero, List.drop_zero, List.drop_zero]
 unfold sd0
 rw [hx, Option.bind_some, if_pos ha]
 unfold sd1
 rw [hy, Option.bind_some, if_pos hb]
 unfold sd2
 rw [hz, Option.bind_some, if_pos hc]
 rfl
end Go.Proofs.Ytahpbpacjciddaa.Pr
end
section
namespace Go.Proofs.Ytahpbpacjciddaa.Pure
open Go.RowKit Go.Proofs.YtahpbpacjciddaaW.PrintWords Go.Proofs.YtahpbpacjciddaaW.PrintLast Go.Proofs.YtahpbpacjciddaaW.PrintMore Go.Proofs.Ytahpbpacjciddaa.Pr
set_option linter.unusedVariables false
set_option linter.unusedSimpArgs false
theorem alt_get : ∀ (l : List Bool) (i : Nat) (h : i + 1 < l.length), Alt l → l[i] ≠ l[i + 1]
 | [], i, h, _ => by simp at h
 | [x], i, h, _ => by simp at h
 | x :: y :: l, 0, h, ha => ha.1
 | x :: y :: l, i + 1, h, ha => alt_get (y :: l) i (by simpa using h) ha.2
theorem laws_loop (a b c : List ByteArray) (p : List S34) (hp : p.length ≤ 1000000) (hA : Alt (p.map keptP)) (g1 : Ev (fun k => sidinglaw18_gives.f k a a c c) true) (g2 : Ev (fun k => sidinglaw18_gives.f k a b a b) true) (g3 : Ev (fun k => sidinglaw18_gives.f k a b b b) true) :
  ∀ (d i : Nat), i + d = p.length → Ev (fun k => sidinglaw18_MergeLaws.l0 k a b c true p (i : Int)) true := by
 intro d
 induction d with
 | zero =>
  intro i h
  refine Ev.step (fun k => by rw [sidinglaw18_MergeLaws.l0]) ?_
  exact Ev.neg (by omega) (Ev.pos rfl (Ev.bd g1 (Ev.pos rfl (Ev.bd g2 (Ev.pos rfl (Ev.bd g3 (Ev.now _)))))))
 | succ d ih =>
  intro i h
  have hlt : i < p.length := by omega
  have ei : wrap64 ((i : Int) + 1) = ((i + 1 : Nat) : Int) := by rw [w64 (by omega)]; omega
  refine Ev.step (fun k => by rw [sidinglaw18_MergeLaws.l0]) ?_
  rw [rd_pieces p i hlt, ei]
  refine Ev.pos (by omega) ?_
  by_cases e0 : i = 0
  ·exact Ev.neg (by omega) (ih (i + 1) (by omega))
  ·obtain ⟨j, rfl⟩ : ∃ j, i = j + 1 := ⟨i - 1, by omega⟩
   have ej : wrap64 (((j + 1 : Nat) : Int) - 1) = (j : Int) := by rw [w64 (by omega)]; omega
   rw [ej, rd_pieces p j (by omega)]
   have hne := alt_get (p.map keptP) j (by rw [List.length_map]; omega) hA
   rw [List.getElem_map, List.getElem_map] at hne
   refine Ev.pos (by omega) (Ev.pos (by omega) (Ev.pos (by omega) (Ev.pos (by omega) (Ev.neg ?_ (ih (j + 1 + 1) (by omega))))))
   intro hh
   exact hne (beq_iff_eq.1 hh).symm
theorem MergeLaws : sidinglaw18_MergeLaws.Pure := by
 intro a b c ha hb hc
 have hla : a.length ≤ 9000000000000000000 := by omega
 have hlb : b.length ≤ 9000000000000000000 := by omega
 have hlc : c.length ≤ 9000000000000000000 := by omega
 apply Ev.rounds (g := fun k => sidinglaw18_MergeLaws.f k a b c)
 unfold sidinglaw18_MergeLaws.f
 refine Ev.bc rfl ?_
 rcases fit_ev a b c hla hlb hlc with h | ⟨h, ta, tb, tc, ea, eb, ec⟩
 ·refine Ev.bd h (Ev.neg Bool.false_ne_true ?_)
  refine Ev.step (fun k => by rw [sidinglaw18_MergeLaws.j0]) ?_
  exact Ev.pos rfl (Ev.now _)
 ·refine Ev.bd h (Ev.pos rfl ?_)
  refine Ev.step (fun k => by rw [sidinglaw18_MergeLaws.j0]) ?_
  refine Ev.neg Bool.false_ne_true ?_
  have m1 := merge_ev a b c ta.small tb.small tc.small
  rw [mergeR_ok ea eb ec] at m1
  have hr := (mergeOf_run a b c).1
  have hlen := (run_short hr).1
  obtain ⟨la, _⟩ := linesErr_zero ea
  refine Ev.bd m1 (Ev.bc (sides_val ta.small tb.small tc.small ea eb ec) (Ev.pos rfl (Ev.pos rfl (Ev.bd (rcheck18_ev ea eb ec) (Ev.pos rfl (Ev.bd (same_ev a a hla) (Ev.pos (by simp) (Ev.bd (same_ev b b hlb) (Ev.pos (by simp) (Ev.bd (same_ev c c hlc) ?_))))))))))
  refine Ev.step (fun k => by rw [sidinglaw18_MergeLaws.j1]) ?_
  refine Ev.neg (by simp) ?_
  have hA := (run_alt (bestOf_greedy a b) (bestOf_greedy a c) hr).1
  have g1 := gives_ev a a c c ta.small ta.small tc.small ea ea ec (merge_12 a c).1 (merge_12 a c).2 ec
  have g2 := gives_ev a b a b ta.small tb.small ta.small ea eb ea (merge_13 a b).1 (merge_13 a b).2 eb
  have g3 := gives_ev a b b b ta.small tb.small tb.small ea eb eb (merge_23 a b).1 (merge_23 a b).2 eb
  exact laws_loop a b c (mergeOf a b c) (by omega) hA g1 g2 g3 (mergeOf a b c).length 0 (Nat.zero_add _)
end Go.Proofs.Ytahpbpacjciddaa.Pure
end
section
namespace Go.Proofs.YtahpbpacjciddaaW.PrintWords
open Go Go.ChangeShapes Go.WideShapes Go.Deep
set_option linter.unusedVariables false
set_option linter.unusedSimpArgs false
structure Rdb {α : Type} (P : Program) (t : TypeId) (d : Kd α) (wf : α → Prop) : Prop where
 cells : P.cellsOf t = d.sz
 rd : ∀ {H : Type} {enc : TypeId × Value → H} {w : World} {base : Nat} {spare : Nat → Bool} {held : Bool} {fuel : Nat} {cs : List Value} {x : DataW H × List MemPlace},
  DataW.trod enc P w base spare held fuel t cs = some x → (∀ n ∈ x.1.weights P t, n ≤ 140737488351232) → ∃ v, d.K w v cs ∧ wf v
theorem Rdb.int {P : Program} {t : TypeId} {k : IntKind} (ht : P.underlying t = some (.int k)) (hc : P.cellsOf t = 1) : Rdb P t (Kd.int k) (fun x => (Lit.int k x).wf = true) :=
 ⟨hc, fun h _ => by
  obtain ⟨n, rfl, _, hw⟩ := DataW.trod_int ht h
  exact ⟨n, rfl, hw⟩⟩
theorem Rdb.bool {P : Program} {t : TypeId} (ht : P.underlying t = some .bool) (hc : P.cellsOf t = 1) : Rdb P t Kd.bool (fun _ => True) :=
 ⟨hc, fun h _ => by
  obtain ⟨b, rfl, _⟩ := DataW.trod_bool ht h
  exact ⟨b, rfl, trivial⟩⟩
theorem Rdb.string {P : Program} {t : TypeId} (ht : P.underlying t = some .string) (hc : P.cellsOf t = 1) : Rdb P t Kd.string (fun s => s.size ≤ 140737488351232) :=
 ⟨hc, fun h hz => by
  obtain ⟨s, rfl, rfl, _⟩ := DataW.trod_string ht h
  refine ⟨s, rfl, ?_⟩
  have := hz s.data.toList.length (by simp [DataW.weights])
  rwa [data_length] at this⟩
theorem weightsAll_mem {H : Type} {P : Program} {e : TypeId} {d : DataW H} : ∀ {l : List (DataW H)}, d ∈ l → ∀ n ∈ d.weights P e, n ∈ DataW.weightsAll P e l
 | a :: l, hd, n, hn => by
  rcases List.mem_cons.1 hd with rfl | hd
  ·simp only [DataW.weightsAll, List.mem_append]
   exact .inl hn
  ·simp only [DataW.weightsAll, List.mem_append]
   exact .inr (weightsAll_mem hd n hn)
theorem cells_at {w : World} {base : Nat} {a : Addr} {n : Nat} {cs : List Value} (h : w.cells? base a n = some cs) : cs.length = n ∧ ∀ i u, cs[i]? = some u → w.cell? (a.add i) = some u := by
 unfold World.cells? at h
 split at h
 ·have hl := mapM_some_length h
  rw [List.length_range] at hl
  refine ⟨hl, fun i u hu => ?_⟩
  have hi : i < n := by
   have := (List.getElem?_eq_some_iff.1 hu).1
   omega
  have := mapM_some_get h i i (by simp [hi])
  rw [this, hu]
 ·cases h
theorem Rdb.slice {α : Type} [Inhabited α] {P : Program} {t e : TypeId} {d : Kd α} {wf : α → Prop} {B : Nat} (ht : P.underlying t = some (.slice e)) (hc : P.cellsOf t = 1) (hB : P.bytesOf e = B) (h : Rdb P e d wf) :
  Rdb P t (Kd.slice e d) (fun xs => xs.length * B ≤ 140737488351232 ∧ ∀ x ∈ xs, wf x) :=
 ⟨hc, fun {H enc w base spare held fuel cs x} hx hz => by
  rcases open_slice ht hx with ⟨rfl, _⟩ | ⟨a, len, cap, m, n, D, Pl, rfl, hb, hl, hm, hmm, rfl, hel⟩
  ·exact ⟨[], ⟨none, 0, rfl, Nat.le_refl _, rfl, by simp, fun hp => absurd hp (by simp)⟩, by simp, by simp⟩
  ·have hlm : len ≤ m := by
    rw [hmm]
    split
    ·exact hl
    ·exact Nat.le_refl _
   have hw : ∀ i, i < len → ∀ n ∈ (D i).weights P e, n ≤ 140737488351232 := by
    intro i hi n hn
    apply hz n
    simp only [DataW.weights, ht, List.mem_cons, List.mem_append]
    exact .inr (.inl (weightsAll_mem (List.mem_map.2 ⟨i, List.mem_range.2 hi, rfl⟩) n hn))
   have hlen : len * B ≤ 140737488351232 := by
    have := hz ((((List.range len).map D).length + ((List.range (m - len)).map fun j => D (len + j)).length) * P.bytesOf e) (by simp [DataW.weights, ht])
    rw [hB] at this
    simp only [List.length_map, List.length_range] at this
    exact Nat.le_trans (Nat.mul_le_mul_right _ (by omega)) this
   obtain ⟨V, hV⟩ := choose_lt (α := α) (n := len) (p := fun i v => ∃ c, c.length = d.sz ∧ d.K w v c ∧ (∀ j u, c[j]? = some u → w.cell? (a.add (i * d.sz + j)) = some u) ∧ wf v) (by
    intro i hi
    obtain ⟨cs', h1, h2⟩ := hel i (by omega)
    obtain ⟨v, hK, hwf⟩ := h.rd h2 (hw i hi)
    obtain ⟨_, hcell⟩ := cells_at h1
    refine ⟨v, cs', d.K_len hK, hK, fun j u hu => ?_, hwf⟩
    have := hcell j u hu
    rwa [h.cells, add_add] at this)
   refine ⟨(List.range len).map V, ⟨some a, cap, by simp, by simpa using hl, rfl, by simp; simp only [maxLen] at hm; omega, fun hp => ⟨a, rfl, fun j p hj => ?_⟩⟩, by simpa using hlen, ?_⟩
   ·have hjl : j < len := by
     have := (List.getElem?_eq_some_iff.1 hj).1
     simpa using this
    have : p = V j := by
     simp [hjl] at hj
     exact hj.symm
    subst this
    obtain ⟨c, h1, h2, h3, _⟩ := hV j hjl
    exact ⟨c, h1, h2, h3⟩
   ·intro p hp
    obtain ⟨i, hi, rfl⟩ := List.mem_map.1 hp
    obtain ⟨_, _, _, _, h4⟩ := hV i (List.mem_range.1 hi)
    exact h4⟩
def RdF {α : Type} (P : Program) (fs : List Field) (off : Nat) (d : Kd α) (wf : α → Prop) : Prop :=
 ∀ {H : Type} {enc : TypeId × Value → H} {w : World} {base : Nat} {spare : Nat → Bool} {held : Bool} {fuel : Nat} {cs : List Value} {xs : List (DataW H × List MemPlace)},
  (∀ (i : Nat) (f : Field), fs[i]? = some f → DataW.trod enc P w base spare held fuel f.type ((cs.drop f.offset).take (P.cellsOf f.type)) = xs[i]?) → xs.length = fs.length → cs.length = off + d.sz →
  (∀ n ∈ DataW.weightsEach P (fs.map (·.type)) (xs.map (·.1)), n ≤ 140737488351232) → ∃ v, d.K w v (cs.drop off) ∧ wf v
theorem RdF.last {α : Type} {P : Program} {f : Field} {off : Nat} {d : Kd α} {wf : α → Prop} (ho : f.offset = off) (h : Rdb P f.type d wf) : RdF P [f] off d wf := by
 intro H enc w base spare held fuel cs xs hf hl hc hz
 match xs, hl with
 | [x], _ =>
  have h1 := hf 0 f rfl
  rw [ho, h.cells, List.take_of_length_le (by rw [List.length_drop]; omega)] at h1
  exact h.rd h1 (fun n hn => hz n (by simp [DataW.weightsEach, hn]))
theorem RdF.cons {α β : Type} {P : Program} {f : Field} {fs : List Field} {off : Nat} {a : Kd α} {b : Kd β} {wa : α → Prop} {wb : β → Prop} (ho : f.offset = off) (h : Rdb P f.type a wa) (hr : RdF P fs (off + a.sz) b wb) : RdF P (f :: fs) off (Kd.pair a b) (fun x => wa x.1 ∧ wb x.2) := by
 intro H enc w base spare held fuel cs xs hf hl hc hz
 match xs, hl with
 | x :: xs, hl =>
  have hsz : (Kd.pair a b).sz = a.sz + b.sz := rfl
  have h1 := hf 0 f rfl
  rw [ho, h.cells] at h1
  obtain ⟨v, hv, hwv⟩ := h.rd h1 (fun n hn => hz n (by simp [DataW.weightsEach, hn]))
  obtain ⟨u, hu, hwu⟩ := hr (cs := cs) (xs := xs) (fun i g hg => by simpa using hf (i + 1) g (by simpa using hg)) (by simpa using hl) (by rw [hc, hsz]; omega) (fun n hn => hz n (by simp only [List.map_cons, DataW.weightsEach, List.mem_append]; exact .inr hn))
  refine ⟨(v, u), ⟨_, _, ?_, hv, hu⟩, hwv, hwu⟩
  rw [← List.drop_drop, List.take_append_drop]
theorem Rdb.struct {α β : Type} {P : Program} {t : TypeId} {fs : Array Field} {d : Kd α} {wf : α → Prop} (f : β → α) (g : α → β) (hfg : ∀ x, f (g x) = x) (ht : P.underlying t = some (.struct fs)) (hc : P.cellsOf t = d.sz) (h : RdF P fs.toList 0 d wf) :
  Rdb P t (Kd.iso d f) (fun x => wf (f x)) :=
 ⟨hc, fun hx hz => by
  obtain ⟨xs, n, _, rfl, hl, hlen, hf⟩ := DataW.trod_struct ht hx
  obtain ⟨v, hv, hw⟩ := h (xs := xs) (fun i f hi => hf i f (by simpa using hi)) (by simpa using hlen) (by rw [hl, hc, Nat.zero_add]) (fun n hn => hz n (by simpa [DataW.weights, ht] using hn))
  refine ⟨g v, ?_, ?_⟩
  ·show d.K _ (f (g v)) _
   rw [hfg]
   simpa using hv
  ·rw [hfg]
   exact hw⟩
theorem Rdb.top {α : Type} {H : Type} {enc : TypeId × Value → H} {P : Program} {W : World} {base : Nat} {spare : Nat → Bool} {held : Bool} {t e : TypeId} {d : Kd α} {wf : List α → Prop} {a : Option Addr} {len cap : Nat} {dd : DataW H} {ps : List MemPlace} {ts : List TypeId} {ds : List (DataW H)} {j : Nat}
  (R : Rdb P t (Kd.slice e d) wf) (hsz : (DataW.weightsEach P ts ds).all (· ≤ reachBytes) = true) (ht : ts[j]? = some t) (hd : ds[j]? = some dd)
  (h : DataW.Trod enc P W base spare held t (.slice a len cap) dd ps) : ∃ l : List α, len = l.length ∧ d.C W a l.length l ∧ l.length ≤ cap ∧ wf l := by
 obtain ⟨fuel, hf⟩ := h
 obtain ⟨l, ⟨A, c, he, hl, hC⟩, hw⟩ := R.rd hf (fun n hn => by
  have := List.all_eq_true.1 hsz _ (DataW.weights_mem_each ht hd n hn)
  exact of_decide_eq_true this)
 simp [Value.cells] at he
 obtain ⟨rfl, rfl, rfl⟩ := he
 exact ⟨l, rfl, hC, hl, hw⟩
end Go.Proofs.YtahpbpacjciddaaW.PrintWords
end
