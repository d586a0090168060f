/- Part 21 of the proof of MergeApart: texts put together. -/
import Derived.Test.YtahpbpacjciddaaJMergeApart4
import Derived.Test.YtahpbpacjciddaaJMergeApart5
import Derived.Test.YtahpbpacjciddaaJMergeApart9
import Derived.Test.YtahpbpacjciddaaJMergeApart10
import Derived.Test.YtahpbpacjciddaaJMergeApart13
import Derived.Test.YtahpbpacjciddaaJMergeApart14
import Derived.Test.YtahpbpacjciddaaJMergeApart15
import Derived.Test.YtahpbpacjciddaaJMergeApart16
import Derived.Test.YtahpbpacjciddaaJMergeApart17
import Derived.Test.YtahpbpacjciddaaJMergeApart19
import Derived.Test.YtahpbpacjciddaaJMergeApart20
set_option linter.unusedVariables false
set_option linter.unusedSimpArgs false
section
namespace Go.Proofs.Ytahpbpacjciddaa.Pr
open Go.RowKit Go.Proofs.YtahpbpacjciddaaW.PrintWords Go.Proofs.YtahpbpacjciddaaW.PrintLast Go.Proofs.YtahpbpacjciddaaW.PrintMore
theorem segL_len {l : List ByteArray} {p q : Nat} (hq : q ≤ l.length) : (segL l p q).length = q - p := by
 unfold segL
 rw [List.length_drop, List.length_take]
 omega
inductive Run (a b c : List ByteArray) (m1 m2 : List (Nat × Nat)) : Nat → Nat → Nat → List S34 → Prop
 | last (i p r : Nat) (hi : i ≤ a.length) (hp : p ≤ b.length) (hr : r ≤ c.length) (hB : Bnd m1 m2 i p r) (hn : ∀ j, i ≤ j → j < a.length → pt m1 j = none ∨ pt m2 j = none) : Run a b c m1 m2 i p r (gapP a b c (i, p, r) (a.length, b.length, c.length))
 | next (i p r t q s M : Nat) (R : List S34) (hB : Bnd m1 m2 i p r) (h1 : i ≤ t) (h2 : t + M ≤ a.length) (hM : 1 ≤ M) (hn : ∀ j, i ≤ j → j < t → pt m1 j = none ∨ pt m2 j = none) (hq : ∀ k, k < M → pt m1 (t + k) = some (q + k) ∧ pt m2 (t + k) = some (s + k)) (hs : ¬ (pt m1 (t + M) = some (q + M) ∧ pt m2 (t + M) = some (s + M)))
   (hp : p ≤ q) (hr : r ≤ s) (hqb : q + M ≤ b.length) (hsc : s + M ≤ c.length) (hR : Run a b c m1 m2 (t + M) (q + M) (s + M) R) : Run a b c m1 m2 i p r (gapP a b c (i, p, r) (t, q, s) ++ ⟨1, segL a t (t + M), segL a t (t + M), segL a t (t + M)⟩ :: R)
theorem run_ex {a b c : List ByteArray} {m1 m2 : List (Nat × Nat)} (h1 : Match a b 0 0 m1) (h2 : Match a c 0 0 m2) : ∀ (d i p r : Nat), i + d = a.length → Bnd m1 m2 i p r → ∃ R, Run a b c m1 m2 i p r R ∧ ∀ f out, a.length - i < f → mres a b c m1 m2 f i (i, p, r) out = some (out ++ R) := by
 intro d
 induction d using Nat.strongRecOn with
 | _ d ih =>
 intro i p r hd hB
 have hpb : p ≤ b.length ∧ r ≤ c.length := by
  rcases hB with ⟨_, rfl, rfl⟩ | ⟨f, u, v, _, rfl, rfl, e1, e2⟩
  ·omega
  ·obtain ⟨_, _, _, g1, _⟩ := pt_some h1 e1
   obtain ⟨_, _, _, g2, _⟩ := pt_some h2 e2
   omega
 cases turn h1 h2 i p r (by omega) hB with
 | last hn he => exact ⟨_, .last i p r (by omega) hpb.1 hpb.2 hB hn, he⟩
 | next t q s M g1 g2 hM hn hq hs hp hr hqb hsc hb2 he =>
  obtain ⟨R, hR, hRe⟩ := ih (a.length - (t + M)) (by omega) (t + M) (q + M) (s + M) (by omega) hb2
  refine ⟨_, .next i p r t q s M R hB g1 g2 hM hn hq hs hp hr hqb hsc hR, fun f out hf => ?_⟩
  obtain ⟨f', hf', e⟩ := he f out hf
  rw [e, hRe f' _ hf']
  simp only [List.append_assoc, List.singleton_append]
noncomputable def mergeOf (a b c : List ByteArray) : List S34 := (mres a b c (bestOf a b) (bestOf a c) (a.length + 1) 0 (0, 0, 0) []).getD []
theorem mergeOf_run (a b c : List ByteArray) : Run a b c (bestOf a b) (bestOf a c) 0 0 0 (mergeOf a b c) ∧ mres a b c (bestOf a b) (bestOf a c) (a.length + 1) 0 (0, 0, 0) [] = some (mergeOf a b c) := by
 obtain ⟨R, h1, h2⟩ := run_ex (bestOf_greedy a b).match (bestOf_greedy a c).match a.length 0 0 0 (by omega) (.inl ⟨rfl, rfl, rfl⟩)
 have h3 := h2 (a.length + 1) [] (by omega)
 rw [List.nil_append] at h3
 have e : mergeOf a b c = R := by
  unfold mergeOf
  rw [h3]
  rfl
 rw [e]
 exact ⟨h1, h3⟩
def triErr (a b c : List ByteArray) : Int := if linesErr a = 0 then (if linesErr b = 0 then linesErr c else linesErr b) else linesErr a
theorem triErr_zero {a b c : List ByteArray} : triErr a b c = 0 ↔ linesErr a = 0 ∧ linesErr b = 0 ∧ linesErr c = 0 := by
 unfold triErr
 split
 ·rename_i h
  split
  ·rename_i h2
   exact ⟨fun h3 => ⟨h, h2, h3⟩, fun h => h.2.2⟩
  ·rename_i h2
   exact ⟨fun h => absurd h h2, fun h => absurd h.2.1 h2⟩
 ·rename_i h
  exact ⟨fun g => absurd g h, fun g => absurd g.1 h⟩
noncomputable def mergeR (a b c : List ByteArray) : List S34 × Int := if triErr a b c = 0 then (mergeOf a b c, 0) else ([], triErr a b c)
theorem join_snd {l : List ByteArray} (hs : small l) : ∃ x, lines_Join.f l = some (x, linesErr l) := by
 rw [join_val l hs]
 by_cases h : linesErr l = 0
 ·rw [if_pos h, h]
  exact ⟨_, rfl⟩
 ·rw [if_neg h]
  exact ⟨_, rfl⟩
theorem merge_ev (a b c : List ByteArray) (ha : small a) (hb : small b) (hc : small c) : Ev (fun k => merge_Merge.f k a b c) (mergeR a b c) := by
 obtain ⟨x, hx⟩ := join_snd ha
 obtain ⟨y, hy⟩ := join_snd hb
 obtain ⟨z, hz⟩ := join_snd hc
 unfold merge_Merge.f mergeR triErr
 refine Ev.bc hx ?_
 by_cases e1 : linesErr a = 0
 ·rw [if_pos e1]
  refine Ev.pos e1 ?_
  unfold mm1
  refine Ev.bc hy ?_
  by_cases e2 : linesErr b = 0
  ·rw [if_pos e2]
   refine Ev.pos e2 ?_
   unfold mm2
   refine Ev.bc hz ?_
   by_cases e3 : linesErr c = 0
   ·rw [if_pos e3]
    refine Ev.pos e3 ?_
    unfold mm3
    refine Ev.bd (pairs_ev a b ha hb) (Ev.bd (pairs_ev a c ha hc) (Ev.ke ?_))
    rw [if_pos (bothErr_zero.2 ⟨e1, e2⟩), if_pos (bothErr_zero.2 ⟨e1, e3⟩)]
    unfold merge_Merge.g
    obtain ⟨l1, _⟩ := linesErr_zero e1
    obtain ⟨l2, _⟩ := linesErr_zero e2
    obtain ⟨l3, _⟩ := linesErr_zero e3
    rw [if_pos (by
     rw [pxs_fits (bestOf_greedy a b).match (by omega), pxs_fits (bestOf_greedy a c).match (by omega), decide_eq_true (show a.length ≤ 400000 by omega), decide_eq_true (show b.length ≤ 400000 by omega), decide_eq_true (show c.length ≤ 400000 by omega)]
     rfl)]
    have h := (mergeOf_run a b c).2
    unfold mres at h
    obtain ⟨r, h1, h2⟩ := Option.bind_eq_some_iff.1 h
    show ((mgo a b c (pxs a.length (bestOf a b)) (pxs a.length (bestOf a c)) (a.length + 1) 0 (0, 0, 0) []).bind _) = _
    rw [h1, Option.bind_some, h2]
    rfl
   ·rw [if_neg e3]
    exact Ev.neg e3 (Ev.rt rfl)
  ·rw [if_neg e2, if_neg e2]
   exact Ev.neg e2 (Ev.rt rfl)
 ·rw [if_neg e1, if_neg e1]
  exact Ev.neg e1 (Ev.rt rfl)
theorem gapP_mem {a b c : List ByteArray} {x y : Nat × Nat × Nat} {z : S34} (h : z ∈ gapP a b c x y) : z = mkPiece (segL a x.1 y.1) (segL b x.2.1 y.2.1) (segL c x.2.2 y.2.2) ∧ y ≠ x := by
 unfold gapP at h
 split at h
 ·cases h
 ·rename_i e
  exact ⟨List.mem_singleton.1 h, e⟩
theorem segL_le (l : List ByteArray) (x y : Nat) : (segL l x y).length ≤ l.length := by
 unfold segL
 rw [List.length_drop, List.length_take]
 omega
theorem gapP_len (a b c : List ByteArray) (x y : Nat × Nat × Nat) : (gapP a b c x y).length ≤ 1 := by
 unfold gapP
 split <;> simp
theorem run_short {a b c : List ByteArray} {m1 m2 : List (Nat × Nat)} {i p r : Nat} {R : List S34} (h : Run a b c m1 m2 i p r R) : R.length + 2 * i ≤ 2 * a.length + 1 ∧ ∀ x ∈ R, x.f1.length ≤ a.length ∧ x.f2.length ≤ max a.length b.length ∧ x.f3.length ≤ max a.length c.length := by
 have hg : ∀ x y, ∀ z ∈ gapP a b c x y, z.f1.length ≤ a.length ∧ z.f2.length ≤ max a.length b.length ∧ z.f3.length ≤ max a.length c.length := fun x y z hz => by
  obtain ⟨rfl, _⟩ := gapP_mem hz
  have g1 := segL_le a x.1 y.1
  have g2 := segL_le b x.2.1 y.2.1
  have g3 := segL_le c x.2.2 y.2.2
  refine ⟨g1, ?_, ?_⟩
  ·show (segL b x.2.1 y.2.1).length ≤ _
   omega
  ·show (segL c x.2.2 y.2.2).length ≤ _
   omega
 induction h with
 | last i p r hi hp hr hB hn =>
  have := gapP_len a b c (i, p, r) (a.length, b.length, c.length)
  exact ⟨by omega, hg _ _⟩
 | next i p r t q s M R hB h1 h2 hM hn hq hs hp hr hqb hsc hR ih =>
  have := gapP_len a b c (i, p, r) (t, q, s)
  refine ⟨by rw [List.length_append, List.length_cons]; omega, fun x hx => ?_⟩
  rcases List.mem_append.1 hx with hx | hx
  ·exact hg _ _ x hx
  ·rcases List.mem_cons.1 hx with rfl | hx
   ·have := segL_le a t (t + M)
    refine ⟨this, ?_, ?_⟩
    ·show (segL a t (t + M)).length ≤ _
     omega
    ·show (segL a t (t + M)).length ≤ _
     omega
   ·exact ih.2 x hx
theorem rd_pieces (m : List S34) (i : Nat) (h : i < m.length) : rd_T34 m (i : Int) = m[i] := by simp [rd_T34, h]
end Go.Proofs.Ytahpbpacjciddaa.Pr
end
section
namespace Go.Proofs.Ytahpbpacjciddaa.Pr
open Go.RowKit Go.Proofs.YtahpbpacjciddaaW.PrintWords Go.Proofs.YtahpbpacjciddaaW.PrintLast Go.Proofs.YtahpbpacjciddaaW.PrintMore
theorem match_weak {a b : List ByteArray} {i i' k : Nat} {m : List (Nat × Nat)} (h : Match a b i' k m) (hi : i ≤ i') : Match a b i k m := by
 cases h with
 | nil => exact .nil _ _
 | cons _ _ p m h1 h2 h3 h4 he hm => exact .cons i k p m (by omega) h2 h3 h4 he hm
def lsF (g : Nat → Option Nat) : Nat → Nat → List (Nat × Nat)
 | _, 0 => []
 | i, d + 1 => match g i with
  | none => lsF g (i + 1) d
  | some u => (i, u) :: lsF g (i + 1) d
theorem lsF_match {a b : List ByteArray} {g : Nat → Option Nat} : ∀ (d i k : Nat), (∀ j u, i ≤ j → g j = some u → k ≤ u ∧ ∃ (h1 : j < a.length) (h2 : u < b.length), a[j] = b[u]) → (∀ j l u v, i ≤ j → j < l → g j = some u → g l = some v → u < v) → Match a b i k (lsF g i d)
 | 0, i, k, _, _ => .nil _ _
 | d + 1, i, k, hv, hm => by
  unfold lsF
  cases e : g i with
  | none => exact match_weak (lsF_match d (i + 1) k (fun j u h => hv j u (by omega)) (fun j l u v h => hm j l u v (by omega))) (by omega)
  | some u =>
   obtain ⟨hk, h1, h2, he⟩ := hv i u (Nat.le_refl _) e
   exact .cons i k (i, u) _ (Nat.le_refl _) hk h1 h2 he (lsF_match d (i + 1) (u + 1) (fun j v hj hg => ⟨hm i j u v (Nat.le_refl _) (by omega) e hg, (hv j v (by omega) hg).2⟩) (fun j l u v h => hm j l u v (by omega)))
theorem lsF_congr {g g' : Nat → Option Nat} : ∀ (d i : Nat), (∀ j, i ≤ j → g j = g' j) → lsF g i d = lsF g' i d
 | 0, _, _ => rfl
 | d + 1, i, h => by
  unfold lsF
  rw [h i (Nat.le_refl _), lsF_congr d (i + 1) (fun j hj => h j (by omega))]
theorem ls_ge {a b : List ByteArray} : ∀ (d i k : Nat) (m : List (Nat × Nat)), i + d = a.length → Match a b i k m → m.length ≤ (lsF (pt m) i d).length
 | 0, i, k, m, hd, h => by
  cases h with
  | nil => exact Nat.zero_le _
  | cons _ _ p m h1 h2 h3 h4 he hm => omega
 | d + 1, i, k, m, hd, h => by
  cases h with
  | nil => exact Nat.zero_le _
  | cons _ _ p m h1 h2 h3 h4 he hm =>
   unfold lsF
   by_cases e : p.1 = i
   ·have e1 : pt (p :: m) i = some p.2 := by
     unfold pt
     rw [if_pos e]
    have e2 : lsF (pt (p :: m)) (i + 1) d = lsF (pt m) (i + 1) d := lsF_congr d (i + 1) (fun j hj => by
     rw [pt, if_neg (by omega)])
    rw [e1, e2]
    have := ls_ge d (i + 1) (p.2 + 1) m (by omega) (e ▸ hm)
    simp only [List.length_cons]
    omega
   ·have e1 : pt (p :: m) i = none := by
     rw [pt, if_neg e]
     exact pt_lt hm i (by omega)
    rw [e1]
    exact ls_ge d (i + 1) k (p :: m) (by omega) (.cons _ _ p m (by omega) h2 h3 h4 he hm)
theorem lsF_le {g g' : Nat → Option Nat} : ∀ (d i : Nat), (∀ j, i ≤ j → g' j = none → g j = none) → (lsF g i d).length ≤ (lsF g' i d).length
 | 0, _, _ => Nat.le_refl _
 | d + 1, i, h => by
  have ih := lsF_le d (i + 1) (fun j hj => h j (by omega))
  have hi := h i (Nat.le_refl _)
  unfold lsF
  cases e' : g' i with
  | none =>
   rw [hi e']
   exact ih
  | some v =>
   cases e : g i with
   | none => simp only [List.length_cons]; omega
   | some u => simp only [List.length_cons]; omega
theorem lsF_lt {g g' : Nat → Option Nat} (j : Nat) : ∀ (d i : Nat), i ≤ j → j < i + d → (∀ j, i ≤ j → g' j = none → g j = none) → g j = none → g' j ≠ none → (lsF g i d).length < (lsF g' i d).length
 | 0, _, _, _, _, _, _ => by omega
 | d + 1, i, h1, h2, h, hn, hs => by
  by_cases e : i = j
  ·subst e
   have ih := lsF_le d (i + 1) (fun j hj => h j (by omega))
   unfold lsF
   rw [hn]
   cases e' : g' i with
   | none => exact absurd e' hs
   | some v => simp only [List.length_cons]; omega
  ·have ih := lsF_lt j d (i + 1) (by omega) (by omega) (fun j hj => h j (by omega)) hn hs
   have hi := h i (Nat.le_refl _)
   unfold lsF
   cases e' : g' i with
   | none =>
    rw [hi e']
    exact ih
   | some v =>
    cases e : g i with
    | none => simp only [List.length_cons]; omega
    | some u => simp only [List.length_cons]; omega
structure Part (a b : List ByteArray) (m : List (Nat × Nat)) (i t p : Nat) : Prop where
 hit : i ≤ t
 ht : t ≤ a.length
 hpb : p + (t - i) ≤ b.length
 lo : ∀ j u, pt m j = some u → j < i → u < p
 up : ∀ j u, pt m j = some u → t ≤ j → p + (t - i) ≤ u
 he : ∀ k (h1 : i + k < a.length) (h2 : p + k < b.length), k < t - i → a[i + k] = b[p + k]
theorem fill {a b : List ByteArray} {m : List (Nat × Nat)} (h : Greedy a b 0 0 m) {i t p : Nat} (c : Part a b m i t p) (j : Nat) (hj1 : i ≤ j) (hj2 : j < t) : pt m j ≠ none := by
 intro hn
 obtain ⟨hit, ht, hpb, lo, up, he⟩ := c
 let g' : Nat → Option Nat := fun x => if i ≤ x ∧ x < t then some (p + (x - i)) else pt m x
 have hin : ∀ x, i ≤ x → x < t → g' x = some (p + (x - i)) := fun x h1 h2 => if_pos ⟨h1, h2⟩
 have hout : ∀ x, ¬ (i ≤ x ∧ x < t) → g' x = pt m x := fun x h1 => if_neg h1
 have hM : Match a b 0 0 (lsF g' 0 a.length) := by
  refine lsF_match a.length 0 0 (fun x u _ hx => ⟨Nat.zero_le _, ?_⟩) (fun x y u v _ hxy hx hy => ?_)
  ·by_cases e : i ≤ x ∧ x < t
   ·rw [hin x e.1 e.2] at hx
    obtain rfl := Option.some.inj hx
    have := he (x - i) (by omega) (by omega) (by omega)
    refine ⟨by omega, by omega, ?_⟩
    rw [← this]
    congr 1
    omega
   ·rw [hout x e] at hx
    exact (pt_some h.match hx).2.2
  ·by_cases e : i ≤ x ∧ x < t
   ·rw [hin x e.1 e.2] at hx
    obtain rfl := Option.some.inj hx
    by_cases e2 : i ≤ y ∧ y < t
    ·rw [hin y e2.1 e2.2] at hy
     obtain rfl := Option.some.inj hy
     omega
    ·rw [hout y e2] at hy
     have := up y v hy (by omega)
     omega
   ·rw [hout x e] at hx
    by_cases e2 : i ≤ y ∧ y < t
    ·rw [hin y e2.1 e2.2] at hy
     obtain rfl := Option.some.inj hy
     have := lo x u hx (by omega)
     omega
    ·rw [hout y e2] at hy
     exact pt_mono h.match hx hy hxy
 have h1 := hM.length_le
 have h2 := h.length
 have h3 := ls_ge a.length 0 0 m (by omega) h.match
 have h4 := lsF_lt (g := pt m) (g' := g') j a.length 0 (Nat.zero_le _) (by omega) (fun x _ hx => by
  by_cases e : i ≤ x ∧ x < t
  ·rw [hin x e.1 e.2] at hx
   cases hx
  ·rw [hout x e] at hx
   exact hx) hn (by rw [hin j hj1 hj2]; exact fun e => nomatch e)
 omega
theorem fill_id {a b : List ByteArray} {m : List (Nat × Nat)} (h : Greedy a b 0 0 m) {i t p : Nat} (c : Part a b m i t p) (hin : ∀ j u, i ≤ j → j < t → pt m j = some u → p ≤ u ∧ u < p + (t - i)) (k : Nat) (hk : k < t - i) : pt m (i + k) = some (p + k) := by
 have ex : ∀ k, k < t - i → ∃ u, pt m (i + k) = some u := fun k hk => Option.ne_none_iff_exists'.1 (fill h c (i + k) (by omega) (by omega))
 have lo : ∀ k u, k < t - i → pt m (i + k) = some u → p + k ≤ u := by
  intro k
  induction k with
  | zero => exact fun u hk hu => (hin i u (Nat.le_refl _) (by omega) hu).1
  | succ k ih =>
   intro u hk hu
   obtain ⟨v, hv⟩ := ex k (by omega)
   have := ih v (by omega) hv
   have := pt_mono h.match hv hu (by omega)
   omega
 have up : ∀ c k u, k + c + 1 = t - i → pt m (i + k) = some u → u + c < p + (t - i) := by
  intro c
  induction c with
  | zero => exact fun k u hk hu => (hin (i + k) u (by omega) (by omega) hu).2
  | succ c ih =>
   intro k u hk hu
   obtain ⟨v, hv⟩ := ex (k + 1) (by omega)
   have := ih (k + 1) v (by omega) hv
   have := pt_mono h.match hu hv (by omega)
   omega
 obtain ⟨u, hu⟩ := ex k hk
 have h1 := lo k u hk hu
 have h2 := up (t - i - 1 - k) k u (by omega) hu
 rw [hu, Option.some.injEq]
 omega
end Go.Proofs.Ytahpbpacjciddaa.Pr
end
section
namespace Go.Proofs.Ytahpbpacjciddaa.Pr
open Go.RowKit Go.Proofs.YtahpbpacjciddaaW.PrintWords Go.Proofs.YtahpbpacjciddaaW.PrintLast Go.Proofs.YtahpbpacjciddaaW.PrintMore
def sideOf (f : S34 → List ByteArray) (l : List S34) : List ByteArray := (l.map f).flatten
def sd3 (b o t : List ByteArray) : Option (List ByteArray × List ByteArray × List ByteArray × Int) := some (b, o, t, 0)
def sd2 (b o t : List ByteArray) : Option (List ByteArray × List ByteArray × List ByteArray × Int) := (lines_Join.f t).bind fun j => if j.2 = 0 then sd3 b o t else some ([], [], [], j.2)
def sd1 (b o t : List ByteArray) : Option (List ByteArray × List ByteArray × List ByteArray × Int) := (lines_Join.f o).bind fun j => if j.2 = 0 then sd2 b o t else some ([], [], [], j.2)
def sd0 (b o t : List ByteArray) : Option (List ByteArray × List ByteArray × List ByteArray × Int) := (lines_Join.f b).bind fun j => if j.2 = 0 then sd1 b o t else some ([], [], [], j.2)
def sdAt (b o t : List ByteArray) : Nat → Option (List ByteArray × List ByteArray × List ByteArray × Int)
  | 0 => sd0 b o t
  | 1 => sd1 b o t
  | 2 => sd2 b o t
  | _ => sd3 b o t
def merge_Sides.f (l0 : List S34) : Option (List ByteArray × List ByteArray × List ByteArray × Int) :=
  (merge_Check.f l0).bind fun e => if e = 0 then sd0 (sideOf S34.f1 l0) (sideOf S34.f2 l0) (sideOf S34.f3 l0) else some ([], [], [], e)
theorem mcheck_zero {l : List S34} (h : merge_Check.f l = some 0) : l.length ≤ 130 ∧ ∀ x ∈ l, x.f1.length ≤ 60 ∧ x.f2.length ≤ 60 ∧ x.f3.length ≤ 60 := by
  unfold merge_Check.f at h
  by_cases h3 : 130 < l.length
  · rw [if_pos h3] at h; simp at h
  · rw [if_neg h3] at h
    refine ⟨by omega, fun x hx => ?_⟩
    by_cases h4 : l.any mbad = true
    · rw [if_pos h4] at h; simp at h
    · have h5 : mbad x = false := by
        cases hb : mbad x with
        | false => rfl
        | true => exact absurd (List.any_eq_true.2 ⟨x, hx, hb⟩) h4
      simp only [mbad, Bool.or_eq_false_iff, Bool.not_eq_false'] at h5
      exact ⟨mplain_len h5.1, mplain_len h5.2.1, mplain_len h5.2.2.1⟩
theorem row_other {W w1 : World} {b : Nat} {u v v1 x : Value} {xs : List ByteArray} (h : Kd.R Kd.string 9 W b (fun k => some k ≠ v.ownBlock ∧ some k ≠ x.ownBlock) u xs) (hg : W.grownBy w1 v.ownBlock) (hat : v1.ownBlock = v.ownBlock ∨ ∃ b, v1.ownBlock = some b ∧ W.heap.size ≤ b) :
    Kd.R Kd.string 9 w1 b (fun k => some k ≠ v1.ownBlock ∧ some k ≠ x.ownBlock) u xs :=
  Kd.R_mono (Kd.R_after (Kd.R_mono h (fun k hk => ⟨hk.2, hk.1⟩)) hg hat) (fun k hk => ⟨hk.2, hk.1⟩)
theorem bl_keep {w X : World} (hb : Below w.heap.size w X) {a : Addr} {v : Value} (h : w.cell? a = some v) : X.cell? a = some v := by
  have hl := World.block_lt_of_cell? w a h
  rw [← h]
  simp only [World.cell?, hb.block _ hl]
theorem row_swap {W : World} {b : Nat} {u v x : Value} {xs : List ByteArray} (h : Kd.R Kd.string 9 W b (fun k => some k ≠ v.ownBlock ∧ some k ≠ x.ownBlock) u xs) : Kd.R Kd.string 9 W b (fun k => some k ≠ x.ownBlock ∧ some k ≠ v.ownBlock) u xs := Kd.R_mono h (fun k hk => ⟨hk.2, hk.1⟩)
theorem row_fresh {W : World} {b : Nat} {ok : Nat → Prop} {v : Value} {xs : List ByteArray} (h : Kd.R Kd.string 9 W b ok v xs) (k : Nat) (hk : W.heap.size ≤ k) : some k ≠ v.ownBlock := fun e => by
  have := Kd.R_lt h k e.symm
  omega
set_option maxHeartbeats 8000000 in
set_option maxRecDepth 100000 in
theorem merge_Sides.calls (A0 : Option Addr) (c0 : Nat) (l0 : List S34) (r1 : List ByteArray) (r2 : List ByteArray) (r3 : List ByteArray) (r4 : Int) (w : World) (hr0 : Kd.C k34 w A0 l0.length l0) (hc0 : l0.length ≤ c0) (h : merge_Sides.f l0 = some (r1, r2, r3, r4)) :
  Calls Try.prog 22 #[.slice A0 l0.length c0] w fun e w' => ∃ v0_ v1_ v2_ : Value, e = .returned (.tuple #[v0_, v1_, v2_, .int .i64 r4]) ∧ Kd.R Kd.string 9 w' w.heap.size (fun k_ => some k_ ≠ (v1_ : Value).ownBlock ∧ some k_ ≠ (v2_ : Value).ownBlock) v0_ r1 ∧ Kd.R Kd.string 9 w' w.heap.size (fun k_ => some k_ ≠ (v0_ : Value).ownBlock ∧ some k_ ≠ (v2_ : Value).ownBlock) v1_ r2 ∧ Kd.R Kd.string 9 w' w.heap.size (fun k_ => some k_ ≠ (v0_ : Value).ownBlock ∧ some k_ ≠ (v1_ : Value).ownBlock) v2_ r3 ∧ Below w.heap.size w w' := by
 have i0 : ∀ (x y z : Value) W, (Instr.index 47 (.agg #[x, y, z]) (.int .i64 0)).run Try.prog W = .ok x W := fun x y z W => by kernel_rfl
 have i1 : ∀ (x y z : Value) W, (Instr.index 47 (.agg #[x, y, z]) (.int .i64 1)).run Try.prog W = .ok y W := fun x y z W => by kernel_rfl
 have i2 : ∀ (x y z : Value) W, (Instr.index 47 (.agg #[x, y, z]) (.int .i64 2)).run Try.prog W = .ok z W := fun x y z W => by kernel_rfl
 unfold merge_Sides.f at h
 obtain ⟨e, he, h⟩ := Option.bind_eq_some_iff.1 h
 have HR0 := Aside0.mk hr0
 have HE := Aside0.mk he
 clear hr0
 by_cases hz : e = 0
 ·subst hz
  rw [if_pos rfl] at h
  obtain ⟨hl, hin⟩ := mcheck_zero he
  have HIN := Aside0.mk hin
  obtain ⟨bF, hbF⟩ : ∃ b, b = sideOf S34.f1 l0 := ⟨_, rfl⟩
  obtain ⟨oF, hoF⟩ : ∃ b, b = sideOf S34.f2 l0 := ⟨_, rfl⟩
  obtain ⟨tF, htF⟩ : ∃ b, b = sideOf S34.f3 l0 := ⟨_, rfl⟩
  rw [← hbF, ← hoF, ← htF] at h
  have HF := Aside0.mk (show sdAt bF oF tF 0 = some (r1, r2, r3, r4) from h)
  have HBF := Aside0.mk hbF
  have HOF := Aside0.mk hoF
  have HTF := Aside0.mk htF
  clear hin he h hbF hoF htF
  go_enter Try.func22, Try.ntmps22
  go_wp2_with (go_at_call 20; (with_reducible refine (merge_Check.calls A0 c0 l0 0 _ HR0.out hc0 HE.out).mono ?_); rintro e_ w1 ⟨rfl, hb1⟩; have HB1 := Aside0.mk hb1; clear hb1)
  go_loopg [2, 3, 4, 20] l0.length (fun nq vb vo vt v20 wr => ∃ (j : Nat) (bs os ts : List ByteArray), v20 = .int .i64 (j : Int) ∧ j ≤ l0.length ∧ l0.length - j ≤ nq ∧ Aside0 (bs ++ sideOf S34.f1 (l0.drop j) = bF ∧ os ++ sideOf S34.f2 (l0.drop j) = oF ∧ ts ++ sideOf S34.f3 (l0.drop j) = tF) ∧ Aside0 (bs.length ≤ 60 * j ∧ os.length ≤ 60 * j ∧ ts.length ≤ 60 * j) ∧
   Aside0 (Kd.R Kd.string 9 wr w.heap.size (fun k => some k ≠ vo.ownBlock ∧ some k ≠ vt.ownBlock) vb bs) ∧ Aside0 (Kd.R Kd.string 9 wr w.heap.size (fun k => some k ≠ vb.ownBlock ∧ some k ≠ vt.ownBlock) vo os) ∧ Aside0 (Kd.R Kd.string 9 wr w.heap.size (fun k => some k ≠ vb.ownBlock ∧ some k ≠ vo.ownBlock) vt ts) ∧ Aside0 (Below w.heap.size w wr))
  case atStart => exact ⟨0, [], [], [], rfl, by omega, by omega, ⟨⟨HBF.out.symm, HOF.out.symm, HTF.out.symm⟩⟩, ⟨by simp⟩, ⟨Kd.R_nil _ _ _ _ _⟩, ⟨Kd.R_nil _ _ _ _ _⟩, ⟨Kd.R_nil _ _ _ _ _⟩, HB1⟩
  case round =>
   obtain ⟨j, bs, os, ts, rfl, hj, hjq, HA, HLN, VB, VO, VT, HB⟩ := hrel
   obtain ⟨AB, cB, rfl⟩ := Kd.R_slice VB.out
   obtain ⟨AO, cO, rfl⟩ := Kd.R_slice VO.out
   obtain ⟨AT, cT, rfl⟩ := Kd.R_slice VT.out
   by_cases hlt : j < l0.length
   ·have q1 : decide ((j : Int) < (l0.length : Int)) = true := decide_eq_true (by omega)
    obtain ⟨ad, A1, c1, A2, c2, A3, c3, rfl, k0, k1, k2, k3, n1, g1, n2, g2, n3, g3⟩ := at_T34 HR0.out (j : Int) (by omega) (by omega)
    have k0 := bl_keep HB.out k0
    have k1 := bl_keep HB.out k1
    have k2 := bl_keep HB.out k2
    have k3 := bl_keep HB.out k3
    have hx : l0.drop j = rd_T34 l0 (j : Int) :: l0.drop (j + 1) := by
     rw [List.drop_eq_getElem_cons hlt]
     unfold rd_T34
     rw [Int.toNat_natCast, List.getD_eq_getElem?_getD, List.getElem?_eq_getElem hlt]
     rfl
    obtain ⟨x, hxe⟩ : ∃ x, x = rd_T34 l0 (j : Int) := ⟨_, rfl⟩
    rw [← hxe] at k0 k1 k2 k3 n1 g1 n2 g2 n3 g3 hx
    have hxl := HIN.out x (List.mem_of_mem_drop (i := j) (by rw [hx]; exact List.mem_cons_self))
    have HX := Aside0.mk hx
    have HXL := Aside0.mk hxl
    clear hxe hx hxl
    simp only [Int.toNat_natCast] at k0 k1 k2 k3
    obtain ⟨W, hW⟩ : ∃ W, W = wr.alloc (.cells #[.int .u8 x.f0, .slice A1 x.f1.length c1, .slice A2 x.f2.length c2, .slice A3 x.f3.length c3] 34) := ⟨_, rfl⟩
    have hWB : Below wr.heap.size wr W := by rw [hW]; exact (Below.refl _ _).alloc (Nat.le_refl _) _
    have hsz : W.heap.size = wr.heap.size + 1 := by rw [hW]; simp
    have D1 := Aside0.mk (show W.cell? ⟨wr.heap.size, 1, none⟩ = some (.slice A1 x.f1.length c1) by rw [hW]; go_simp)
    have D2 := Aside0.mk (show W.cell? ⟨wr.heap.size, 2, none⟩ = some (.slice A2 x.f2.length c2) by rw [hW]; go_simp)
    have D3 := Aside0.mk (show W.cell? ⟨wr.heap.size, 3, none⟩ = some (.slice A3 x.f3.length c3) by rw [hW]; go_simp)
    have L0 := Aside0.mk (show wr.heap.size < W.heap.size by omega)
    have HWB := Aside0.mk (Below.trans HB.out (Below.mono hWB (Below.size HB.out)))
    have G1 := Aside0.mk g1
    have G2 := Aside0.mk g2
    have G3 := Aside0.mk g3
    have BB := Aside0.mk (Kd.R_below VB.out hWB)
    have BO := Aside0.mk (Kd.R_below VO.out hWB)
    have BT := Aside0.mk (Kd.R_below VT.out hWB)
    have d1 := D1.out
    have FB := Aside0.mk (show ∀ k, (Value.slice AB bs.length cB).ownBlock = some k → k < wr.heap.size from Kd.R_lt VB.out)
    have FO := Aside0.mk (show ∀ k, (Value.slice AO os.length cO).ownBlock = some k → k < wr.heap.size from Kd.R_lt VO.out)
    go_upto_region 7 with fail
    rw [← hW]
    clear hW hWB hsz g1 g2 g3 k0 k1 k2 k3 VB VO VT
    go_upto_region 8 with (at_builtin; refine Kd.R_append_rows Kd.string (w0 := w) w.heap.size rfl (.tmp 24) (.tmp 26) 22 9 (.string ⟨#[]⟩) 16 rfl Try.underlying22 info9 rfl (by decide) (by omega) (.slice AB bs.length cB) bs x.f1 _ _ _ (fun k => some k ≠ (Value.slice AO os.length cO).ownBlock ∧ some k ≠ (Value.slice AT ts.length cT).ownBlock) (fun _ => False) rfl rfl BB.out (Kd.C_below G1.out HWB.out) (fun _ _ h => h) (fun _ h => h.elim) (fun k hk => ⟨row_fresh BO.out k hk, row_fresh BT.out k hk⟩) HWB.out (Below.size HWB.out) (by have := HLN.out; have := HXL.out; omega) ?_; intro vb w5 hr5 hb5 hg5 hat5; obtain ⟨AB5, cB5, rfl⟩ := Kd.R_slice hr5; have R5 := Aside0.mk hr5; have HB5 := Aside0.mk hb5; have HG5 := Aside0.mk hg5; have HAT5 := Aside0.mk hat5; clear hr5 hb5 hg5 hat5)
    have BO5 := Aside0.mk (row_other BO.out HG5.out HAT5.out)
    have BT5 := Aside0.mk (row_other (row_swap (row_swap BT.out)) HG5.out HAT5.out)
    have ne5 : (some wr.heap.size : Option Nat) ≠ (Value.slice AB bs.length cB).ownBlock := fun e => by have := FB.out _ e.symm; omega
    have d2 := cell_grown HG5.out D2.out ne5
    have D3' := Aside0.mk (cell_grown HG5.out D3.out ne5)
    have HS5 := Aside0.mk (show wr.heap.size < w5.heap.size from Nat.lt_of_lt_of_le L0.out HG5.out.size)
    go_upto_region 9 with (at_builtin; refine Kd.R_append_rows Kd.string (w0 := w) w.heap.size rfl (.tmp 28) (.tmp 30) 22 9 (.string ⟨#[]⟩) 16 rfl Try.underlying22 info9 rfl (by decide) (by omega) (.slice AO os.length cO) os x.f2 _ _ _ (fun k => some k ≠ (Value.slice AB5 (bs ++ x.f1).length cB5).ownBlock ∧ some k ≠ (Value.slice AT ts.length cT).ownBlock) (fun _ => False) rfl rfl BO5.out (Kd.C_below G2.out HB5.out) (fun _ _ h => h) (fun _ h => h.elim) (fun k hk => ⟨row_fresh R5.out k hk, row_fresh BT5.out k hk⟩) HB5.out (Below.size HB5.out) (by have := HLN.out; have := HXL.out; omega) ?_; intro vo w6 hr6 hb6 hg6 hat6; obtain ⟨AO6, cO6, rfl⟩ := Kd.R_slice hr6; have R6 := Aside0.mk hr6; have HB6 := Aside0.mk hb6; have HG6 := Aside0.mk hg6; have HAT6 := Aside0.mk hat6; clear hr6 hb6 hg6 hat6)
    have BB6 := Aside0.mk (row_other R5.out HG6.out HAT6.out)
    have BT6 := Aside0.mk (row_swap (row_other (row_swap BT5.out) HG6.out HAT6.out))
    have ne6 : (some wr.heap.size : Option Nat) ≠ (Value.slice AO os.length cO).ownBlock := fun e => by have := FO.out _ e.symm; omega
    have d3 := cell_grown HG6.out D3'.out ne6
    clear ne5 ne6 d1 d2
    go_wp2_with (at_builtin; refine Kd.R_append_rows Kd.string (w0 := w) w.heap.size rfl (.tmp 32) (.tmp 34) 22 9 (.string ⟨#[]⟩) 16 rfl Try.underlying22 info9 rfl (by decide) (by omega) (.slice AT ts.length cT) ts x.f3 _ _ _ (fun k => some k ≠ (Value.slice AB5 (bs ++ x.f1).length cB5).ownBlock ∧ some k ≠ (Value.slice AO6 (os ++ x.f2).length cO6).ownBlock) (fun _ => False) rfl rfl BT6.out (Kd.C_below G3.out HB6.out) (fun _ _ h => h) (fun _ h => h.elim) (fun k hk => ⟨row_fresh BB6.out k hk, row_fresh R6.out k hk⟩) HB6.out (Below.size HB6.out) (by have := HLN.out; have := HXL.out; omega) ?_; intro vt w7 hr7 hb7 hg7 hat7; obtain ⟨AT7, cT7, rfl⟩ := Kd.R_slice hr7; have R7 := Aside0.mk hr7; have HB7 := Aside0.mk hb7; have HG7 := Aside0.mk hg7; have HAT7 := Aside0.mk hat7; clear hr7 hb7 hg7 hat7)
    have BB7 := Aside0.mk (row_swap (row_other (row_swap BB6.out) HG7.out HAT7.out))
    have BO7 := Aside0.mk (row_swap (row_other (row_swap R6.out) HG7.out HAT7.out))
    go_roundg (l0.length - (j + 1))
    case measure => omega
    case rel =>
     have hA := HA.out
     rw [HX.out] at hA
     have hL := HLN.out
     have hXL := HXL.out
     refine ⟨j + 1, bs ++ x.f1, os ++ x.f2, ts ++ x.f3, by go_num, by omega, by omega, ⟨?_⟩, ⟨by rw [List.length_append, List.length_append, List.length_append]; omega⟩, ⟨by have h := BB7.out; rw [List.length_append] at h; simpa [List.length_append] using h⟩, ⟨by have h := BO7.out; simpa [List.length_append] using h⟩, ⟨by have h := R7.out; simpa [List.length_append] using h⟩, HB7⟩
     simp only [sideOf, List.map_cons, List.flatten_cons, List.append_assoc] at hA ⊢
     exact hA
   ·have q1 : decide ((j : Int) < (l0.length : Int)) = false := decide_eq_false (by omega)
    have HE2 := Aside0.mk (show bs = bF ∧ os = oF ∧ ts = tF by
     have h := HA.out
     rw [List.drop_eq_nil_of_le (by omega)] at h
     simp only [sideOf, List.map_nil, List.flatten_nil, List.append_nil] at h
     exact h)
    obtain ⟨rfl, rfl, rfl⟩ := HE2.out
    clear HE2 HA HIN
    obtain ⟨wo, rfl⟩ : ∃ wo : World, wo = wr := ⟨_, rfl⟩
    go_upto_block 2 with fail
    go_wp2_with fail
    go_loopg [2, 3, 4, 41] 3 (fun nq v2 v3 v4 v41 wz => ∃ j : Nat, v2 = .slice AB bs.length cB ∧ v3 = .slice AO os.length cO ∧ v4 = .slice AT ts.length cT ∧ v41 = .int .i64 (j : Int) ∧ j ≤ 3 ∧ 3 - j ≤ nq ∧ Aside0 (sdAt bs os ts j = some (r1, r2, r3, r4)) ∧ Aside0 (Below wo.heap.size wo wz))
    case atStart => exact ⟨0, rfl, rfl, rfl, rfl, by omega, by omega, HF, ⟨Below.refl _ _⟩⟩
    case round =>
     clear HF hj hjq hlt q1
     obtain ⟨j, rfl, rfl, rfl, rfl, hj, hjq, HM, HBX⟩ := hrel
     have hcase : j = 0 ∨ j = 1 ∨ j = 2 ∨ j = 3 := by omega
     rcases hcase with rfl | rfl | rfl | rfl
     ·obtain ⟨⟨q, e⟩, hq, hm⟩ := Option.bind_eq_some_iff.1 (show sd0 bs os ts = some (r1, r2, r3, r4) from HM.out)
      have HQ := Aside0.mk hq
      have HC := Aside0.mk (Kd.C_below (Kd.R_reads' VB.out).2.2 HBX.out)
      dsimp only at hm
      clear hq HM
      by_cases he : e = 0
      ·subst he
       rw [if_pos rfl] at hm
       have HM' := Aside0.mk hm
       clear hm
       go_wp2_with (go_at_call 25; (with_reducible refine (lines_Join.calls AB cB bs q 0 _ HC.out (Kd.R_reads' VB.out).2.1 HQ.out).mono ?_); rintro e_ w1 ⟨v6, rfl, hv6, hb1⟩; obtain ⟨A6, c6, rfl⟩ := Kd.V_slice hv6; have HB1 := Aside0.mk (Below.trans HBX.out (Below.mono hb1 (Below.size HBX.out))); clear hv6 hb1)
       go_roundg 2
       case measure => omega
       case rel => exact ⟨1, rfl, rfl, rfl, rfl, by omega, by omega, HM', HB1⟩
      ·rw [if_neg he] at hm
       have h2 := Option.some.inj hm
       simp only [Prod.mk.injEq] at h2
       obtain ⟨rfl, rfl, rfl, rfl⟩ := h2
       clear hm
       have e1 : (e == 0) = false := by simpa using he
       have e2 : (e != 0) = true := by simpa using he
       go_wp2_with (go_at_call 25; (with_reducible refine (lines_Join.calls AB cB bs q e _ HC.out (Kd.R_reads' VB.out).2.1 HQ.out).mono ?_); rintro e_ w1 ⟨v6, rfl, hv6, hb1⟩; obtain ⟨A6, c6, rfl⟩ := Kd.V_slice hv6; have HB1 := Aside0.mk (Below.trans HBX.out (Below.mono hb1 (Below.size HBX.out))); clear hv6 hb1)
       exact bodyPost_ret (v := .tuple #[.slice none 0 0, .slice none 0 0, .slice none 0 0, .int .i64 e]) (by simp [results, Try.results22, go_sem]) rfl ⟨_, _, _, rfl, Kd.R_nil _ _ _ _ _, Kd.R_nil _ _ _ _ _, Kd.R_nil _ _ _ _ _, Below.trans HB.out (Below.mono HB1.out (Below.size HB.out))⟩
     ·obtain ⟨⟨q, e⟩, hq, hm⟩ := Option.bind_eq_some_iff.1 (show sd1 bs os ts = some (r1, r2, r3, r4) from HM.out)
      have HQ := Aside0.mk hq
      have HC := Aside0.mk (Kd.C_below (Kd.R_reads' VO.out).2.2 HBX.out)
      dsimp only at hm
      clear hq HM
      by_cases he : e = 0
      ·subst he
       rw [if_pos rfl] at hm
       have HM' := Aside0.mk hm
       clear hm
       go_wp2_with (go_at_call 25; (with_reducible refine (lines_Join.calls AO cO os q 0 _ HC.out (Kd.R_reads' VO.out).2.1 HQ.out).mono ?_); rintro e_ w1 ⟨v6, rfl, hv6, hb1⟩; obtain ⟨A6, c6, rfl⟩ := Kd.V_slice hv6; have HB1 := Aside0.mk (Below.trans HBX.out (Below.mono hb1 (Below.size HBX.out))); clear hv6 hb1)
       go_roundg 1
       case measure => omega
       case rel => exact ⟨2, rfl, rfl, rfl, rfl, by omega, by omega, HM', HB1⟩
      ·rw [if_neg he] at hm
       have h2 := Option.some.inj hm
       simp only [Prod.mk.injEq] at h2
       obtain ⟨rfl, rfl, rfl, rfl⟩ := h2
       clear hm
       have e1 : (e == 0) = false := by simpa using he
       have e2 : (e != 0) = true := by simpa using he
       go_wp2_with (go_at_call 25; (with_reducible refine (lines_Join.calls AO cO os q e _ HC.out (Kd.R_reads' VO.out).2.1 HQ.out).mono ?_); rintro e_ w1 ⟨v6, rfl, hv6, hb1⟩; obtain ⟨A6, c6, rfl⟩ := Kd.V_slice hv6; have HB1 := Aside0.mk (Below.trans HBX.out (Below.mono hb1 (Below.size HBX.out))); clear hv6 hb1)
       exact bodyPost_ret (v := .tuple #[.slice none 0 0, .slice none 0 0, .slice none 0 0, .int .i64 e]) (by simp [results, Try.results22, go_sem]) rfl ⟨_, _, _, rfl, Kd.R_nil _ _ _ _ _, Kd.R_nil _ _ _ _ _, Kd.R_nil _ _ _ _ _, Below.trans HB.out (Below.mono HB1.out (Below.size HB.out))⟩
     ·obtain ⟨⟨q, e⟩, hq, hm⟩ := Option.bind_eq_some_iff.1 (show sd2 bs os ts = some (r1, r2, r3, r4) from HM.out)
      have HQ := Aside0.mk hq
      have HC := Aside0.mk (Kd.C_below (Kd.R_reads' VT.out).2.2 HBX.out)
      dsimp only at hm
      clear hq HM
      by_cases he : e = 0
      ·subst he
       rw [if_pos rfl] at hm
       have HM' := Aside0.mk hm
       clear hm
       go_wp2_with (go_at_call 25; (with_reducible refine (lines_Join.calls AT cT ts q 0 _ HC.out (Kd.R_reads' VT.out).2.1 HQ.out).mono ?_); rintro e_ w1 ⟨v6, rfl, hv6, hb1⟩; obtain ⟨A6, c6, rfl⟩ := Kd.V_slice hv6; have HB1 := Aside0.mk (Below.trans HBX.out (Below.mono hb1 (Below.size HBX.out))); clear hv6 hb1)
       go_roundg 0
       case measure => omega
       case rel => exact ⟨3, rfl, rfl, rfl, rfl, by omega, by omega, HM', HB1⟩
      ·rw [if_neg he] at hm
       have h2 := Option.some.inj hm
       simp only [Prod.mk.injEq] at h2
       obtain ⟨rfl, rfl, rfl, rfl⟩ := h2
       clear hm
       have e1 : (e == 0) = false := by simpa using he
       have e2 : (e != 0) = true := by simpa using he
       go_wp2_with (go_at_call 25; (with_reducible refine (lines_Join.calls AT cT ts q e _ HC.out (Kd.R_reads' VT.out).2.1 HQ.out).mono ?_); rintro e_ w1 ⟨v6, rfl, hv6, hb1⟩; obtain ⟨A6, c6, rfl⟩ := Kd.V_slice hv6; have HB1 := Aside0.mk (Below.trans HBX.out (Below.mono hb1 (Below.size HBX.out))); clear hv6 hb1)
       exact bodyPost_ret (v := .tuple #[.slice none 0 0, .slice none 0 0, .slice none 0 0, .int .i64 e]) (by simp [results, Try.results22, go_sem]) rfl ⟨_, _, _, rfl, Kd.R_nil _ _ _ _ _, Kd.R_nil _ _ _ _ _, Kd.R_nil _ _ _ _ _, Below.trans HB.out (Below.mono HB1.out (Below.size HB.out))⟩
     ·have h2 := Option.some.inj (show sd3 bs os ts = some (r1, r2, r3, r4) from HM.out)
      simp only [Prod.mk.injEq] at h2
      obtain ⟨rfl, rfl, rfl, rfl⟩ := h2
      go_wp2
      exact bodyPost_ret (v := .tuple #[.slice AB bs.length cB, .slice AO os.length cO, .slice AT ts.length cT, .int .i64 0]) (by simp [results, Try.results22, go_sem]) rfl ⟨_, _, _, rfl, Kd.R_below VB.out HBX.out, Kd.R_below VO.out HBX.out, Kd.R_below VT.out HBX.out, Below.trans HB.out (Below.mono HBX.out (Below.size HB.out))⟩
 ·rw [if_neg hz] at h
  have h2 := Option.some.inj h
  simp only [Prod.mk.injEq] at h2
  obtain ⟨rfl, rfl, rfl, rfl⟩ := h2
  clear h he
  have e1 : (e == 0) = false := by simpa using hz
  have e2 : (e != 0) = true := by simpa using hz
  go_enter Try.func22, Try.ntmps22
  go_wp2_with (go_at_call 20; (with_reducible refine (merge_Check.calls A0 c0 l0 e _ HR0.out hc0 HE.out).mono ?_); rintro e_ w1 ⟨rfl, hb1⟩; have HB1 := Aside0.mk hb1; clear hb1)
  exact bodyPost_ret (v := .tuple #[.slice none 0 0, .slice none 0 0, .slice none 0 0, .int .i64 e]) (by simp [results, Try.results22, go_sem]) rfl ⟨_, _, _, rfl, Kd.R_nil _ _ _ _ _, Kd.R_nil _ _ _ _ _, Kd.R_nil _ _ _ _ _, HB1.out⟩
end Go.Proofs.Ytahpbpacjciddaa.Pr
end
section
namespace Go.Proofs.Ytahpbpacjciddaa.Pr
open Go.RowKit Go.Proofs.YtahpbpacjciddaaW.PrintWords Go.Proofs.YtahpbpacjciddaaW.PrintLast Go.Proofs.YtahpbpacjciddaaW.PrintMore
theorem sideOf_append (f : S34 → List ByteArray) (x y : List S34) : sideOf f (x ++ y) = sideOf f x ++ sideOf f y := by
 unfold sideOf
 rw [List.map_append, List.flatten_append]
theorem sideOf_cons (f : S34 → List ByteArray) (x : S34) (y : List S34) : sideOf f (x :: y) = f x ++ sideOf f y := by
 unfold sideOf
 rw [List.map_cons, List.flatten_cons]
theorem segL_id (l : List ByteArray) (x : Nat) : segL l x x = [] := List.drop_eq_nil_of_le (by rw [List.length_take]; omega)
theorem segL_drop (l : List ByteArray) (x : Nat) : segL l x l.length = l.drop x := by
 unfold segL
 rw [List.take_length]
theorem segL_cat (l : List ByteArray) {x y z : Nat} (hxy : x ≤ y) (hyz : y ≤ z) : segL l x y ++ segL l y z = segL l x z := seg_join l hxy hyz
theorem segL_rest (l : List ByteArray) {x y : Nat} (hxy : x ≤ y) (hy : y ≤ l.length) : segL l x y ++ l.drop y = l.drop x := by
 rw [← segL_drop l y, segL_cat l hxy hy, segL_drop]
theorem segL_get (l : List ByteArray) {x y k : Nat} (h : k < y - x) (hy : y ≤ l.length) : (segL l x y)[k]? = l[x + k]? := by
 unfold segL
 rw [List.getElem?_drop, List.getElem?_take_of_lt (by omega)]
theorem segL_same {a b : List ByteArray} {i t p q : Nat} (ht : t ≤ a.length) (hq : q ≤ b.length) (hL : t - i = q - p) (h : segL a i t = segL b p q) : ∀ k (h1 : i + k < a.length) (h2 : p + k < b.length), k < t - i → a[i + k] = b[p + k] := by
 intro k h1 h2 hk
 have e1 := segL_get a hk ht
 have e2 := segL_get b (show k < q - p by omega) hq
 rw [h, e2, List.getElem?_eq_getElem h1, List.getElem?_eq_getElem h2, Option.some.injEq] at e1
 exact e1.symm
theorem gapP_sides (a b c : List ByteArray) (x y : Nat × Nat × Nat) : sideOf S34.f1 (gapP a b c x y) = segL a x.1 y.1 ∧ sideOf S34.f2 (gapP a b c x y) = segL b x.2.1 y.2.1 ∧ sideOf S34.f3 (gapP a b c x y) = segL c x.2.2 y.2.2 := by
 unfold gapP
 by_cases e : y = x
 ·rw [if_pos e, e, segL_id, segL_id, segL_id]
  exact ⟨rfl, rfl, rfl⟩
 ·rw [if_neg e]
  simp [sideOf, mkPiece]
theorem run_kept {a b c : List ByteArray} {m1 m2 : List (Nat × Nat)} (h1 : Match a b 0 0 m1) (h2 : Match a c 0 0 m2) {t q s M : Nat} (g2 : t + M ≤ a.length) (hqb : q + M ≤ b.length) (hsc : s + M ≤ c.length) (hq : ∀ k, k < M → pt m1 (t + k) = some (q + k) ∧ pt m2 (t + k) = some (s + k)) : segL b q (q + M) = segL a t (t + M) ∧ segL c s (s + M) = segL a t (t + M) := by
 refine ⟨seg_match a b t q M g2 hqb (fun k k1 k2 hk => ?_), seg_match a c t s M g2 hsc (fun k k1 k2 hk => ?_)⟩
 ·obtain ⟨_, _, _, _, e⟩ := pt_some h1 (hq k hk).1
  exact e
 ·obtain ⟨_, _, _, _, e⟩ := pt_some h2 (hq k hk).2
  exact e
theorem run_sides {a b c : List ByteArray} {m1 m2 : List (Nat × Nat)} (h1 : Match a b 0 0 m1) (h2 : Match a c 0 0 m2) {i p r : Nat} {R : List S34} (h : Run a b c m1 m2 i p r R) :
  sideOf S34.f1 R = a.drop i ∧ sideOf S34.f2 R = b.drop p ∧ sideOf S34.f3 R = c.drop r := by
 induction h with
 | last i p r hi hp hr hB hn =>
  obtain ⟨e1, e2, e3⟩ := gapP_sides a b c (i, p, r) (a.length, b.length, c.length)
  rw [e1, e2, e3, segL_drop, segL_drop, segL_drop]
  exact ⟨rfl, rfl, rfl⟩
 | next i p r t q s M R hB g1 g2 hM hn hq hs hp hr hqb hsc hR ih =>
  obtain ⟨e1, e2, e3⟩ := gapP_sides a b c (i, p, r) (t, q, s)
  obtain ⟨k1, k2⟩ := run_kept h1 h2 g2 hqb hsc hq
  obtain ⟨i1, i2, i3⟩ := ih
  rw [sideOf_append, sideOf_append, sideOf_append, sideOf_cons, sideOf_cons, sideOf_cons, e1, e2, e3, i1, i2, i3]
  refine ⟨?_, ?_, ?_⟩
  ·show segL a i t ++ (segL a t (t + M) ++ _) = _
   rw [segL_rest a (by omega) g2, segL_rest a g1 (by omega)]
  ·show segL b p q ++ (segL a t (t + M) ++ _) = _
   rw [← k1, segL_rest b (by omega) hqb, segL_rest b hp (by omega)]
  ·show segL c r s ++ (segL a t (t + M) ++ _) = _
   rw [← k2, segL_rest c (by omega) hsc, segL_rest c hr (by omega)]
theorem run_pieces {a b c : List ByteArray} {m1 m2 : List (Nat × Nat)} (h1 : Match a b 0 0 m1) (h2 : Match a c 0 0 m2) {i p r : Nat} {R : List S34} (h : Run a b c m1 m2 i p r R) :
  ∀ x ∈ R, ∃ i t p q r s, x = mkPiece (segL a i t) (segL b p q) (segL c r s) ∧ 0 < x.f1.length + x.f2.length + x.f3.length := by
 have hg : ∀ i p r t q s, i ≤ t → t ≤ a.length → p ≤ q → q ≤ b.length → r ≤ s → s ≤ c.length → ∀ x ∈ gapP a b c (i, p, r) (t, q, s), ∃ i t p q r s, x = mkPiece (segL a i t) (segL b p q) (segL c r s) ∧ 0 < x.f1.length + x.f2.length + x.f3.length := fun i p r t q s h1 h2 h3 h4 h5 h6 x hx => by
  obtain ⟨rfl, hne⟩ := gapP_mem hx
  refine ⟨i, t, p, q, r, s, rfl, ?_⟩
  have e1 : (segL a i t).length = t - i := segL_len h2
  have e2 : (segL b p q).length = q - p := segL_len h4
  have e3 : (segL c r s).length = s - r := segL_len h6
  show 0 < (segL a i t).length + (segL b p q).length + (segL c r s).length
  have : ¬ (t = i ∧ q = p ∧ s = r) := fun e => hne (by rw [e.1, e.2.1, e.2.2])
  omega
 induction h with
 | last i p r hi hp hr hB hn => exact hg i p r _ _ _ hi (Nat.le_refl _) hp (Nat.le_refl _) hr (Nat.le_refl _)
 | next i p r t q s M R hB g1 g2 hM hn hq hs hp hr hqb hsc hR ih =>
  intro x hx
  rcases List.mem_append.1 hx with hx | hx
  ·exact hg i p r t q s g1 (by omega) hp (by omega) hr (by omega) x hx
  ·rcases List.mem_cons.1 hx with rfl | hx
   ·obtain ⟨k1, k2⟩ := run_kept h1 h2 g2 hqb hsc hq
    refine ⟨t, t + M, q, q + M, s, s + M, ?_, ?_⟩
    ·rw [k1, k2]
     unfold mkPiece
     rw [kind_kept]
    ·have e1 : (segL a t (t + M)).length = M := by rw [segL_len g2]; omega
     show 0 < (segL a t (t + M)).length + (segL a t (t + M)).length + (segL a t (t + M)).length
     omega
   ·exact ih x hx
theorem mem_bytes {l : List ByteArray} {s : ByteArray} (h : s ∈ l) : s.size ≤ bytesIn l := by
 unfold bytesIn
 induction l with
 | nil => cases h
 | cons x l ih =>
  rw [List.map_cons, List.sum_cons]
  rcases List.mem_cons.1 h with rfl | h
  ·omega
  ·have := ih h
   omega
theorem segL_mem {l : List ByteArray} {x y : Nat} {s : ByteArray} (h : s ∈ segL l x y) : s ∈ l := List.mem_of_mem_take (List.mem_of_mem_drop h)
theorem plain_seg {l : List ByteArray} (h : linesErr l = 0) (x y : Nat) : mplainB (segL l x y) = true := by
 obtain ⟨h1, h2, h3, h4⟩ := linesErr_zero h
 have hl := segL_le l x y
 unfold mplainB
 rw [decide_eq_true (by omega), Bool.true_and, Bool.not_eq_true', List.any_eq_false]
 intro s hs
 have hm := segL_mem hs
 have hb := mem_bytes hm
 have hf : feedy s = false := by
  have := List.any_eq_false.1 h4 s hm
  simpa using this
 unfold widey
 rw [hf, decide_eq_false (by omega)]
 exact Bool.false_ne_true
theorem mcheck_ok {a b c : List ByteArray} (ha : linesErr a = 0) (hb : linesErr b = 0) (hc : linesErr c = 0) : merge_Check.f (mergeOf a b c) = some 0 := by
 have hr := (mergeOf_run a b c).1
 have hl := (run_short hr).1
 obtain ⟨l1, _⟩ := linesErr_zero ha
 unfold merge_Check.f
 rw [if_neg (by omega), if_neg]
 rw [Bool.not_eq_true, List.any_eq_false]
 intro x hx
 obtain ⟨i, t, p, q, r, s, rfl, hpos⟩ := run_pieces (bestOf_greedy a b).match (bestOf_greedy a c).match hr x hx
 unfold mbad
 unfold mkPiece at hpos ⊢
 simp only at hpos ⊢
 rw [plain_seg ha, plain_seg hb, plain_seg hc, decide_eq_false (fun e => e rfl), decide_eq_false (by omega)]
 exact Bool.false_ne_true
theorem kind_one {x y z : List ByteArray} (h : kindB x y z = 1) : x = y ∧ x = z := by
 unfold kindB at h
 by_cases e1 : y = z
 ·by_cases e2 : x = z
  ·exact ⟨by rw [e1, e2], e2⟩
  ·exfalso
   rw [decide_eq_true e1, decide_eq_false e2] at h
   cases hd : decide (x = y) <;> rw [hd] at h <;> revert h <;> decide
 ·exfalso
  rw [decide_eq_false e1] at h
  cases hd : decide (x = y) <;> cases hd2 : decide (x = z) <;> rw [hd, hd2] at h <;> revert h <;> decide
def resP (x : S34) : List ByteArray := if x.f0 = 3 then x.f3 else x.f2
theorem kind_12 {x z : List ByteArray} : kindB x x z ≠ 5 ∧ (if kindB x x z = 3 then z else x) = z := by
 by_cases e : x = z
 ·subst e
  rw [kind_kept]
  exact ⟨by decide, rfl⟩
 ·have hk : kindB x x z = 3 := by
   unfold kindB
   rw [decide_eq_false e, decide_eq_true rfl]
   rfl
  rw [hk]
  exact ⟨by decide, rfl⟩
theorem kind_13 {x y : List ByteArray} : kindB x y x ≠ 5 ∧ (if kindB x y x = 3 then x else y) = y := by
 by_cases e : x = y
 ·subst e
  rw [kind_kept]
  exact ⟨by decide, rfl⟩
 ·have hk : kindB x y x = 2 := by
   unfold kindB
   rw [decide_eq_false (Ne.symm e), decide_eq_true rfl, decide_eq_false e]
   rfl
  rw [hk]
  exact ⟨by decide, rfl⟩
theorem pt_least {a b : List ByteArray} {m : List (Nat × Nat)} (h : Match a b 0 0 m) {f u : Nat} (hf : pt m f = some u) {j v : Nat} (hj : pt m j = some v) (hjf : j < f + 1) : v < u + 1 := by
 by_cases e : j = f
 ·subst e
  rw [hj, Option.some.injEq] at hf
  omega
 ·have := pt_mono h hj hf (by omega)
  omega
theorem gap_part {a b : List ByteArray} {m : List (Nat × Nat)} (h : Match a b 0 0 m) {i p t q : Nat} (hB : i = 0 ∧ p = 0 ∨ ∃ f u, i = f + 1 ∧ p = u + 1 ∧ pt m f = some u) (hit : i ≤ t) (ht : t ≤ a.length) (hq : q ≤ b.length) (hpq : p ≤ q) (hQ : pt m t = some q ∨ t = a.length ∧ q = b.length) (hL : t - i = q - p) (he : segL a i t = segL b p q) : Part a b m i t p := by
 refine ⟨hit, ht, by omega, fun j u hj hji => ?_, fun j u hj hjt => ?_, segL_same ht hq hL he⟩
 ·rcases hB with ⟨rfl, rfl⟩ | ⟨f, v, rfl, rfl, hf⟩
  ·omega
  ·exact pt_least h hf hj hji
 ·rcases hQ with hQ | ⟨rfl, rfl⟩
  ·by_cases e : j = t
   ·subst e
    rw [hj, Option.some.injEq] at hQ
    omega
   ·have := pt_mono h hQ hj (by omega)
    omega
  ·obtain ⟨_, _, g, _⟩ := pt_some h hj
   omega
theorem gap_diff {a b c : List ByteArray} {m1 m2 : List (Nat × Nat)} (g1 : Greedy a b 0 0 m1) (g2 : Greedy a c 0 0 m2) {i p r t q s : Nat} (hB : Bnd m1 m2 i p r) (hit : i ≤ t) (ht : t ≤ a.length) (hpq : p ≤ q) (hq : q ≤ b.length) (hrs : r ≤ s) (hs : s ≤ c.length)
  (hQ : pt m1 t = some q ∧ pt m2 t = some s ∨ t = a.length ∧ q = b.length ∧ s = c.length) (hn : ∀ j, i ≤ j → j < t → pt m1 j = none ∨ pt m2 j = none) (hne : ¬ (t = i ∧ q = p ∧ s = r)) : kindB (segL a i t) (segL b p q) (segL c r s) ≠ 1 := by
 intro hk
 obtain ⟨e1, e2⟩ := kind_one hk
 have l1 : (segL a i t).length = t - i := segL_len ht
 have l2 : (segL b p q).length = q - p := segL_len hq
 have l3 : (segL c r s).length = s - r := segL_len hs
 rw [e1] at l1
 have l1' := l1
 rw [← e1, e2] at l1'
 have p1 : Part a b m1 i t p := by
  refine gap_part g1.match ?_ hit ht hq hpq ?_ (by omega) e1
  ·rcases hB with ⟨rfl, rfl, _⟩ | ⟨f, u, v, e1, e2, e3, e4, e5⟩
   ·exact .inl ⟨rfl, rfl⟩
   ·exact .inr ⟨f, u, e1, e2, e4⟩
  ·rcases hQ with ⟨h, _⟩ | ⟨h, h', _⟩
   ·exact .inl h
   ·exact .inr ⟨h, h'⟩
 have p2 : Part a c m2 i t r := by
  refine gap_part g2.match ?_ hit ht hs hrs ?_ (by omega) e2
  ·rcases hB with ⟨rfl, _, rfl⟩ | ⟨f, u, v, e1, e2, e3, e4, e5⟩
   ·exact .inl ⟨rfl, rfl⟩
   ·exact .inr ⟨f, v, e1, e3, e5⟩
  ·rcases hQ with ⟨_, h⟩ | ⟨h, _, h'⟩
   ·exact .inl h
   ·exact .inr ⟨h, h'⟩
 have hlt : i < t := by omega
 rcases hn i (Nat.le_refl _) hlt with h | h
 ·exact fill g1 p1 i (Nat.le_refl _) hlt h
 ·exact fill g2 p2 i (Nat.le_refl _) hlt h
end Go.Proofs.Ytahpbpacjciddaa.Pr
end
section
namespace Go.Proofs.Ytahpbpacjciddaa.Pr
open Go.RowKit Go.Proofs.YtahpbpacjciddaaW.PrintWords Go.Proofs.YtahpbpacjciddaaW.PrintLast Go.Proofs.YtahpbpacjciddaaW.PrintMore
def clashN (l : List S34) : Nat := l.countP (fun x => decide (x.f0 = 5))
def resOf (l : List S34) : List ByteArray := sideOf resP l
def joinRes (l : List ByteArray) : List ByteArray × Int := if linesErr l = 0 then (l, 0) else ([], linesErr l)
def resultR (l : List S34) : List ByteArray × Int := if clashN l = 0 then joinRes (resOf l) else ([], 26)
theorem clash_loop (l : List S34) (hl : l.length ≤ 130) : ∀ (d i n : Nat), i + d = l.length → n ≤ i → Ev (fun k => merge_Clashes.l0 k (n : Int) l (l.length : Int) (i : Int)) (((n + clashN (l.drop i) : Nat) : Int), (0 : Int)) := by
 intro d
 induction d with
 | zero =>
  intro i n h hn
  refine Ev.step (fun k => by rw [merge_Clashes.l0]) ?_
  refine Ev.neg (by omega) (Ev.rt ?_)
  rw [List.drop_eq_nil_of_le (by omega)]
  rfl
 | succ d ih =>
  intro i n h hn
  have hlt : i < l.length := by omega
  have hd : l.drop i = l[i] :: l.drop (i + 1) := List.drop_eq_getElem_cons hlt
  refine Ev.step (fun k => by rw [merge_Clashes.l0]) ?_
  refine Ev.pos (by omega) (Ev.pos (by omega) (Ev.pos (by omega) ?_))
  rw [rd_pieces l i hlt, hd]
  have ei : wrap64 ((i : Int) + 1) = ((i + 1 : Nat) : Int) := by rw [w64 (by omega)]; omega
  rw [ei]
  by_cases e : l[i].f0 = 5
  ·have en : wrap64 ((n : Int) + 1) = ((n + 1 : Nat) : Int) := by rw [w64 (by omega)]; omega
   rw [en]
   refine Ev.pos e ?_
   have := ih (i + 1) (n + 1) (by omega) (by omega)
   have hc : n + clashN (l[i] :: l.drop (i + 1)) = n + 1 + clashN (l.drop (i + 1)) := by
    unfold clashN
    rw [List.countP_cons, if_pos (decide_eq_true e)]
    omega
   rw [hc]
   exact this
  ·refine Ev.neg e ?_
   have := ih (i + 1) n (by omega) (by omega)
   have hc : clashN (l[i] :: l.drop (i + 1)) = clashN (l.drop (i + 1)) := by
    unfold clashN
    rw [List.countP_cons, if_neg (by simpa using e)]
    rfl
   rw [hc]
   exact this
theorem clashes_ev (l : List S34) (hc : merge_Check.f l = some 0) : Ev (fun k => merge_Clashes.f k l) ((clashN l : Int), (0 : Int)) := by
 have hl := (mcheck_zero hc).1
 unfold merge_Clashes.f
 refine Ev.bc hc (Ev.pos rfl ?_)
 have := clash_loop l hl l.length 0 0 (by omega) (Nat.le_refl _)
 rw [List.drop_zero, Nat.zero_add] at this
 exact this
theorem result_loop (l : List S34) (hl : l.length ≤ 130) (hin : ∀ x ∈ l, x.f1.length ≤ 60 ∧ x.f2.length ≤ 60 ∧ x.f3.length ≤ 60) : ∀ (d i : Nat) (out : List ByteArray), i + d = l.length → out.length ≤ 60 * i → small (out ++ resOf (l.drop i)) → Ev (fun k => merge_Result.l0 k out l (l.length : Int) (i : Int)) (joinRes (out ++ resOf (l.drop i))) := by
 intro d
 induction d with
 | zero =>
  intro i out h ho hs
  have e0 : resOf (l.drop i) = [] := by
   rw [List.drop_eq_nil_of_le (by omega)]
   rfl
  rw [e0, List.append_nil] at hs ⊢
  refine Ev.step (fun k => by rw [merge_Result.l0]) ?_
  obtain ⟨x, hx⟩ := join_snd hs
  refine Ev.neg (by omega) (Ev.bc hx ?_)
  unfold joinRes
  by_cases e : linesErr out = 0
  ·simp only [if_pos e]
   exact Ev.now _
  ·simp only [if_neg e]
   exact Ev.now _
 | succ d ih =>
  intro i out h ho hs
  have hlt : i < l.length := by omega
  have hd : l.drop i = l[i] :: l.drop (i + 1) := List.drop_eq_getElem_cons hlt
  have hx := hin l[i] (List.getElem_mem hlt)
  have he : out ++ resOf (l.drop i) = (out ++ resP l[i]) ++ resOf (l.drop (i + 1)) := by
   rw [hd]
   unfold resOf
   rw [sideOf_cons, List.append_assoc]
  rw [he] at hs ⊢
  refine Ev.step (fun k => by rw [merge_Result.l0]) ?_
  refine Ev.pos (by omega) (Ev.pos (by omega) (Ev.pos (by omega) ?_))
  rw [rd_pieces l i hlt]
  have ei : wrap64 ((i : Int) + 1) = ((i + 1 : Nat) : Int) := by rw [w64 (by omega)]; omega
  rw [ei]
  by_cases e : l[i].f0 = 3
  ·have hr : resP l[i] = l[i].f3 := if_pos e
   rw [hr] at hs ⊢
   exact Ev.pos e (Ev.pos (by omega) (ih (i + 1) _ (by omega) (by rw [List.length_append]; omega) hs))
  ·have hr : resP l[i] = l[i].f2 := if_neg e
   rw [hr] at hs ⊢
   exact Ev.neg e (Ev.pos (by omega) (ih (i + 1) _ (by omega) (by rw [List.length_append]; omega) hs))
theorem result_ev (l : List S34) (hc : merge_Check.f l = some 0) (hs : small (resOf l)) : Ev (fun k => merge_Result.f k l) (resultR l) := by
 obtain ⟨hl, hin⟩ := mcheck_zero hc
 unfold merge_Result.f
 refine Ev.bd (clashes_ev l hc) (Ev.pos rfl ?_)
 unfold resultR
 by_cases e : clashN l = 0
 ·rw [if_pos e]
  refine Ev.neg (by show ¬ ((clashN l : Nat) : Int) > 0; omega) ?_
  have := result_loop l hl hin l.length 0 [] (by omega) (by simp) (by rw [List.drop_zero, List.nil_append]; exact hs)
  rw [List.drop_zero, List.nil_append] at this
  exact this
 ·rw [if_neg e]
  exact Ev.pos (by show ((clashN l : Nat) : Int) > 0; omega) (Ev.now _)
theorem res_mem {a b c : List ByteArray} {s : ByteArray} (h : s ∈ resOf (mergeOf a b c)) : s ∈ b ∨ s ∈ c := by
 unfold resOf sideOf at h
 rw [List.mem_flatten] at h
 obtain ⟨x, hx, hs⟩ := h
 obtain ⟨y, hy, rfl⟩ := List.mem_map.1 hx
 obtain ⟨i, t, p, q, r, u, rfl, _⟩ := run_pieces (bestOf_greedy a b).match (bestOf_greedy a c).match (mergeOf_run a b c).1 y hy
 unfold resP at hs
 split at hs
 ·exact .inr (segL_mem hs)
 ·exact .inl (segL_mem hs)
theorem res_small {a b c : List ByteArray} (hb : small b) (hc : small c) : small (resOf (mergeOf a b c)) := fun s hs => (res_mem hs).elim (hb s) (hc s)
theorem mergeR_ok {a b c : List ByteArray} (ha : linesErr a = 0) (hb : linesErr b = 0) (hc : linesErr c = 0) : mergeR a b c = (mergeOf a b c, 0) := if_pos (triErr_zero.2 ⟨ha, hb, hc⟩)
theorem long3_ev (a b c : List ByteArray) (ha : a.length ≤ 9000000000000000000) (hb : b.length ≤ 9000000000000000000) (hc : c.length ≤ 9000000000000000000) : Ev (fun k => sidinglaw18_long.f k a b c) (longOf a || (longOf b || longOf c)) := by
 unfold sidinglaw18_long.f
 refine Ev.bd (long_ev a ha) ?_
 cases longOf a with
 | true => exact Ev.pos rfl (Ev.rt rfl)
 | false =>
  refine Ev.neg Bool.false_ne_true (Ev.bd (long_ev b hb) ?_)
  cases longOf b with
  | true => exact Ev.pos rfl (Ev.rt rfl)
  | false => exact Ev.neg Bool.false_ne_true (Ev.bd (long_ev c hc) (Ev.rt rfl))
theorem fit_ev (a b c : List ByteArray) (ha : a.length ≤ 9000000000000000000) (hb : b.length ≤ 9000000000000000000) (hc : c.length ≤ 9000000000000000000) :
  Ev (fun k => sidinglaw18_fit.f k a b c) false ∨ Ev (fun k => sidinglaw18_fit.f k a b c) true ∧ tiny a ∧ tiny b ∧ tiny c ∧ linesErr a = 0 ∧ linesErr b = 0 ∧ linesErr c = 0 := by
 unfold sidinglaw18_fit.f
 by_cases h1 : (longOf a || (longOf b || longOf c)) = true
 ·exact .inl (Ev.bd (long3_ev a b c ha hb hc) (Ev.pos h1 (Ev.now _)))
 ·have h2 := h1
  rw [Bool.not_eq_true, Bool.or_eq_false_iff, Bool.or_eq_false_iff] at h2
  obtain ⟨na, ta⟩ := longOf_tiny h2.1
  obtain ⟨nb, tb⟩ := longOf_tiny h2.2.1
  obtain ⟨nc, tc⟩ := longOf_tiny h2.2.2
  by_cases e1 : linesErr a = 0
  ·by_cases e2 : linesErr b = 0
   ·by_cases e3 : linesErr c = 0
    ·exact .inr ⟨Ev.bd (long3_ev a b c ha hb hc) (Ev.neg h1 (Ev.bd (rlines_ev a ta) (Ev.pos e1 (Ev.bd (rlines_ev b tb) (Ev.pos e2 (Ev.bd (rlines_ev c tc) (Ev.rt (beq_iff_eq.2 e3)))))))), ta, tb, tc, e1, e2, e3⟩
    ·exact .inl (Ev.bd (long3_ev a b c ha hb hc) (Ev.neg h1 (Ev.bd (rlines_ev a ta) (Ev.pos e1 (Ev.bd (rlines_ev b tb) (Ev.pos e2 (Ev.bd (rlines_ev c tc) (Ev.rt (beq_eq_false_iff_ne.2 e3)))))))))
   ·exact .inl (Ev.bd (long3_ev a b c ha hb hc) (Ev.neg h1 (Ev.bd (rlines_ev a ta) (Ev.pos e1 (Ev.bd (rlines_ev b tb) (Ev.neg e2 (Ev.now _)))))))
  ·exact .inl (Ev.bd (long3_ev a b c ha hb hc) (Ev.neg h1 (Ev.bd (rlines_ev a ta) (Ev.neg e1 (Ev.now _)))))
end Go.Proofs.Ytahpbpacjciddaa.Pr
end
section
namespace Go.Proofs.Ytahpbpacjciddaa.Pr
open Go.RowKit Go.Proofs.YtahpbpacjciddaaW.PrintWords Go.Proofs.YtahpbpacjciddaaW.PrintLast Go.Proofs.YtahpbpacjciddaaW.PrintMore
theorem gives_ev (a b c want : List ByteArray) (ha : small a) (hb : small b) (hc : small c) (ea : linesErr a = 0) (eb : linesErr b = 0) (ec : linesErr c = 0) (hn : clashN (mergeOf a b c) = 0) (hr : resOf (mergeOf a b c) = want) (ew : linesErr want = 0) : Ev (fun k => sidinglaw18_gives.f k a b c want) true := by
 have hm := merge_ev a b c ha hb hc
 rw [mergeR_ok ea eb ec] at hm
 have hk := mcheck_ok ea eb ec
 have h1 := clashes_ev (mergeOf a b c) hk
 have h2 := result_ev (mergeOf a b c) hk (res_small hb hc)
 unfold resultR joinRes at h2
 rw [if_pos hn, hr, if_pos ew] at h2
 rw [hn] at h1
 obtain ⟨lw, _⟩ := linesErr_zero ew
 unfold sidinglaw18_gives.f
 refine Ev.bd hm (Ev.bd h1 (Ev.bd h2 (Ev.pos rfl (Ev.pos rfl (Ev.pos rfl (Ev.pos rfl (Ev.bd (same_ev want want (by omega)) (Ev.rt (by simp)))))))))
theorem clash_zero {l : List S34} (h : ∀ x ∈ l, x.f0 ≠ 5) : clashN l = 0 := by
 unfold clashN
 rw [List.countP_eq_zero]
 intro x hx
 simpa using h x hx
theorem side_congr {l : List S34} {f g : S34 → List ByteArray} (h : ∀ x ∈ l, f x = g x) : sideOf f l = sideOf g l := by
 unfold sideOf
 rw [List.map_congr_left h]
theorem piece_12 {x : S34} (hk : x.f0 = kindB x.f1 x.f2 x.f3) (h : x.f1 = x.f2) : x.f0 ≠ 5 ∧ resP x = x.f3 := by
 rw [h] at hk
 have := kind_12 (x := x.f2) (z := x.f3)
 rw [← hk] at this
 exact this
theorem piece_13 {x : S34} (hk : x.f0 = kindB x.f1 x.f2 x.f3) (h : x.f1 = x.f3) : x.f0 ≠ 5 ∧ resP x = x.f2 := by
 rw [h] at hk
 have := kind_13 (x := x.f3) (y := x.f2)
 rw [← hk] at this
 exact this
theorem run_kinds {a b c : List ByteArray} {m1 m2 : List (Nat × Nat)} (h1 : Match a b 0 0 m1) (h2 : Match a c 0 0 m2) {i p r : Nat} {R : List S34} (h : Run a b c m1 m2 i p r R) : ∀ x ∈ R, x.f0 = kindB x.f1 x.f2 x.f3 := fun x hx => by
 obtain ⟨i, t, p, q, r, u, rfl, _⟩ := run_pieces h1 h2 h x hx
 rfl
end Go.Proofs.Ytahpbpacjciddaa.Pr
end
section
namespace Go.Proofs.Ytahpbpacjciddaa.Pr
open Go.RowKit Go.Proofs.YtahpbpacjciddaaW.PrintWords Go.Proofs.YtahpbpacjciddaaW.PrintLast Go.Proofs.YtahpbpacjciddaaW.PrintMore
theorem res_append (x y : List S34) : resOf (x ++ y) = resOf x ++ resOf y := sideOf_append resP x y
theorem res_cons (x : S34) (y : List S34) : resOf (x :: y) = resP x ++ resOf y := sideOf_cons resP x y
theorem run_right {a b c : List ByteArray} {m1 m2 : List (Nat × Nat)} (z z1 : Nat) (hR : ∀ i t p q, z + 1 ≤ i → p + z = i + z1 → q + z = t + z1 → segL a i t = segL b p q) (hlen : b.length + z = a.length + z1) (idr : ∀ j u, z < j → pt m1 j = some u → u + z = j + z1)
  {i p r : Nat} {R : List S34} (h : Run a b c m1 m2 i p r R) : z + 1 ≤ i → p + z = i + z1 → ∀ x ∈ R, x.f1 = x.f2 := by
 induction h with
 | last i p r hi hp hr hB hn =>
  intro hz hpz x hx
  obtain ⟨rfl, _⟩ := gapP_mem hx
  exact hR i a.length p b.length hz hpz hlen
 | next i p r t q s M R hB g1 g2 hM hn hq hs hp hr hqb hsc hRR ih =>
  intro hz hpz x hx
  have h0 := (hq 0 (by omega)).1
  have e := idr _ _ (by omega) h0
  rcases List.mem_append.1 hx with hx | hx
  ·obtain ⟨rfl, _⟩ := gapP_mem hx
   exact hR i t p q hz hpz (by omega)
  ·rcases List.mem_cons.1 hx with rfl | hx
   ·rfl
   ·exact ih (by omega) (by omega) x hx
theorem run_apart {a b c : List ByteArray} {m1 m2 : List (Nat × Nat)} (h1 : Match a b 0 0 m1) (h2 : Match a c 0 0 m2) (z z1 : Nat) (hz1 : pt m1 z = some z1) (hz2 : pt m2 z = some z)
  (hL : ∀ i t, t ≤ z → segL a i t = segL c i t) (idl : ∀ k, k < z → pt m2 k = some k)
  (hR : ∀ i t p q, z + 1 ≤ i → p + z = i + z1 → q + z = t + z1 → segL a i t = segL b p q) (hlen : b.length + z = a.length + z1) (idr : ∀ j u, z < j → pt m1 j = some u → u + z = j + z1)
  {i p r : Nat} {R : List S34} (h : Run a b c m1 m2 i p r R) : i ≤ z → r = i → p ≤ z1 → (∀ x ∈ R, x.f0 ≠ 5) ∧ resOf R = segL b p (z1 + 1) ++ c.drop (z + 1) := by
 obtain ⟨_, _, hza, hzb, _⟩ := pt_some h1 hz1
 obtain ⟨_, _, _, hzc, _⟩ := pt_some h2 hz2
 have hgap : ∀ i p t q, t ≤ z → (∀ x ∈ gapP a b c (i, p, i) (t, q, t), x.f0 ≠ 5) ∧ resOf (gapP a b c (i, p, i) (t, q, t)) = segL b p q := fun i p t q ht => by
  have hp13 : ∀ x ∈ gapP a b c (i, p, i) (t, q, t), x.f0 ≠ 5 ∧ resP x = x.f2 := fun x hx => by
   obtain ⟨rfl, _⟩ := gapP_mem hx
   exact piece_13 rfl (hL i t ht)
  refine ⟨fun x hx => (hp13 x hx).1, ?_⟩
  unfold resOf
  rw [side_congr (fun x hx => (hp13 x hx).2)]
  exact (gapP_sides a b c (i, p, i) (t, q, t)).2.1
 induction h with
 | last i p r hi hp hr hB hn =>
  intro hiz hri hpz
  exfalso
  rcases hn z hiz hza with h | h
  ·rw [h] at hz1; cases hz1
  ·rw [h] at hz2; cases hz2
 | next i p r t q s M R hB g1 g2 hM hn hq hs hp hr hqb hsc hRR ih =>
  intro hiz hri hpz
  subst hri
  have htz : t ≤ z := by
   rcases Nat.lt_or_ge z t with hlt | hge
   ·exfalso
    rcases hn z hiz hlt with h | h
    ·rw [h] at hz1; cases hz1
    ·rw [h] at hz2; cases hz2
   ·exact hge
  have h0 := hq 0 (by omega)
  simp only [Nat.add_zero] at h0
  have est : s = t := by
   rcases Nat.lt_or_ge t z with hlt | hge
   ·have := idl t hlt
    rw [h0.2, Option.some.injEq] at this
    exact this
   ·obtain rfl : t = z := by omega
    rw [h0.2, Option.some.injEq] at hz2
    exact hz2
  subst est
  obtain ⟨gk, gr⟩ := hgap r p s q htz
  have hkr : resP (⟨1, segL a s (s + M), segL a s (s + M), segL a s (s + M)⟩ : S34) = segL a s (s + M) := rfl
  have hk5 : ∀ R' : List S34, (∀ x ∈ R', x.f0 ≠ 5) → ∀ x ∈ gapP a b c (r, p, r) (s, q, s) ++ ⟨1, segL a s (s + M), segL a s (s + M), segL a s (s + M)⟩ :: R', x.f0 ≠ 5 := fun R' hR' x hx => by
   rcases List.mem_append.1 hx with hx | hx
   ·exact gk x hx
   ·rcases List.mem_cons.1 hx with rfl | hx
    ·show (1 : Int) ≠ 5
     decide
    ·exact hR' x hx
  rcases Nat.lt_or_ge z (s + M) with hlt | hge
  ·have hzq := (hq (z - s) (by omega)).1
   rw [show s + (z - s) = z by omega, hz1, Option.some.injEq] at hzq
   have hall := run_right z z1 hR hlen idr hRR (by omega) (by omega)
   have hkinds := run_kinds h1 h2 hRR
   have hp12 : ∀ x ∈ R, x.f0 ≠ 5 ∧ resP x = x.f3 := fun x hx => piece_12 (hkinds x hx) (hall x hx)
   refine ⟨hk5 R (fun x hx => (hp12 x hx).1), ?_⟩
   have hrr : resOf R = c.drop (s + M) := by
    unfold resOf
    rw [side_congr (fun x hx => (hp12 x hx).2)]
    exact (run_sides h1 h2 hRR).2.2
   rw [res_append, res_cons, gr, hkr, hrr]
   have e1 : segL a s (s + M) = segL a s (z + 1) ++ segL a (z + 1) (s + M) := (segL_cat a (by omega) (by omega)).symm
   have e2 : segL b q (z1 + 1) = segL a s (z + 1) := by
    have := seg_match a b s q (z + 1 - s) (by omega) (by omega) (fun k k1 k2 hk => by
     obtain ⟨_, _, _, _, e⟩ := pt_some h1 (hq k (by omega)).1
     exact e)
    rw [show q + (z + 1 - s) = z1 + 1 by omega, show s + (z + 1 - s) = z + 1 by omega] at this
    exact this
   have e3 : segL c (z + 1) (s + M) = segL a (z + 1) (s + M) := by
    have := seg_match a c (z + 1) (z + 1) (s + M - (z + 1)) (by omega) (by omega) (fun k k1 k2 hk => by
     have hx := (hq (z + 1 - s + k) (by omega)).2
     rw [show s + (z + 1 - s + k) = z + 1 + k by omega] at hx
     obtain ⟨_, _, _, _, e⟩ := pt_some h2 hx
     exact e)
    rw [show z + 1 + (s + M - (z + 1)) = s + M by omega] at this
    exact this
   rw [e1, ← e2, ← e3, List.append_assoc, segL_rest c (by omega) (by omega), ← List.append_assoc, segL_cat b hp (by omega)]
  ·have hl := (hq (M - 1) (by omega)).1
   have hmo := pt_mono h1 hl hz1 (by omega)
   obtain ⟨i1, i2⟩ := ih (by omega) rfl (by omega)
   refine ⟨hk5 R i1, ?_⟩
   rw [res_append, res_cons, gr, hkr, i2, ← (run_kept h1 h2 g2 hqb hsc hq).1, ← List.append_assoc, ← List.append_assoc, List.append_assoc (segL b p q), segL_cat b (by omega) (by omega), segL_cat b hp (by omega)]
theorem run_line {a b c : List ByteArray} {m1 m2 : List (Nat × Nat)} (g1 : Greedy a b 0 0 m1) (g2 : Greedy a c 0 0 m2) {i p r : Nat} {R : List S34} (h : Run a b c m1 m2 i p r R) :
  ∀ x ∈ R, x.f0 = 1 → ∀ s ∈ x.f1, ∃ z u v, pt m1 z = some u ∧ pt m2 z = some v ∧ a[z]? = some s := by
 have hno : ∀ i p r t q s, Bnd m1 m2 i p r → i ≤ t → t ≤ a.length → p ≤ q → q ≤ b.length → r ≤ s → s ≤ c.length → (pt m1 t = some q ∧ pt m2 t = some s ∨ t = a.length ∧ q = b.length ∧ s = c.length) → (∀ j, i ≤ j → j < t → pt m1 j = none ∨ pt m2 j = none) → ∀ x ∈ gapP a b c (i, p, r) (t, q, s), x.f0 ≠ 1 := fun i p r t q s hB h1 h2 h3 h4 h5 h6 hQ hn x hx => by
  obtain ⟨rfl, hne⟩ := gapP_mem hx
  exact gap_diff (t := t) (q := q) (s := s) g1 g2 hB h1 h2 h3 h4 h5 h6 hQ hn (fun h => hne (by rw [h.1, h.2.1, h.2.2]))
 induction h with
 | last i p r hi hp hr hB hn =>
  intro x hx h1
  exact absurd h1 (hno i p r _ _ _ hB hi (Nat.le_refl _) hp (Nat.le_refl _) hr (Nat.le_refl _) (.inr ⟨rfl, rfl, rfl⟩) hn x hx)
 | next i p r t q s M R hB h1 h2 hM hn hq hs hp hr hqb hsc hRR ih =>
  intro x hx hx1 l hl
  rcases List.mem_append.1 hx with hx | hx
  ·exact absurd hx1 (hno i p r t q s hB h1 (by omega) hp (by omega) hr (by omega) (.inl (hq 0 (by omega))) hn x hx)
  ·rcases List.mem_cons.1 hx with rfl | hx
   ·have hl2 : l ∈ segL a t (t + M) := hl
    obtain ⟨k, hk⟩ := List.mem_iff_getElem?.1 hl2
    have hkl : k < M := by
     have := (List.getElem?_eq_some_iff.1 hk).1
     rw [segL_len h2] at this
     omega
    rw [segL_get a (by omega) h2] at hk
    exact ⟨t + k, q + k, s + k, (hq k hkl).1, (hq k hkl).2, hk⟩
   ·exact ih x hx hx1 l hl
end Go.Proofs.Ytahpbpacjciddaa.Pr
end
section
namespace Go.Proofs.Ytahpbpacjciddaa.Pr
open Go.RowKit Go.Proofs.YtahpbpacjciddaaW.PrintWords Go.Proofs.YtahpbpacjciddaaW.PrintLast Go.Proofs.YtahpbpacjciddaaW.PrintMore
theorem both_ev (a b : List ByteArray) (ha : tiny a) (hb : tiny b) : Ev (fun k => sidingref14_Both.f k a b) (bothErr a b) := by
 unfold sidingref14_Both.f bothErr
 refine Ev.bd (rlines_ev a ha) ?_
 by_cases h : linesErr a = 0
 ·rw [if_pos h]
  exact Ev.pos h (Ev.bd (rlines_ev b hb) (Ev.now _))
 ·exact Ev.neg h (Ev.bd (rlines_ev a ha) (Ev.rt (if_neg h).symm))
end Go.Proofs.Ytahpbpacjciddaa.Pr
end
section
namespace Go.Proofs.Ytahpbpacjciddaa.Pr
open Go.RowKit Go.Proofs.YtahpbpacjciddaaW.PrintWords Go.Proofs.YtahpbpacjciddaaW.PrintLast Go.Proofs.YtahpbpacjciddaaW.PrintMore
theorem found_val (a b : List ByteArray) (ha : a.length ≤ 60) (hb : b.length ≤ 60) : ref14_Found.f a b = some ((bestOf a b).map prOf) := by
 unfold ref14_Found.f
 rw [if_pos (by rw [decide_eq_true ha, decide_eq_true hb]; rfl), bestOf_gOf]
 rfl
theorem best_le (a b : List ByteArray) : (bestOf a b).length ≤ a.length := by
 rw [bestOf_length]
 exact lcsLen_le_left a b
end Go.Proofs.Ytahpbpacjciddaa.Pr
end
section
namespace Go.Proofs.Ytahpbpacjciddaa.Pr
open Go.RowKit Go.Proofs.YtahpbpacjciddaaW.PrintWords Go.Proofs.YtahpbpacjciddaaW.PrintLast Go.Proofs.YtahpbpacjciddaaW.PrintMore
theorem rbest_ev (a b : List ByteArray) (ha : tiny a) (hb : tiny b) : Ev (fun k => sidingref14_Best.f k a b) (if bothErr a b = 0 then ((bestOf a b).map prOf, (0 : Int)) else (([] : List S77), bothErr a b)) := by
 unfold sidingref14_Best.f
 refine Ev.bd (both_ev a b ha hb) ?_
 by_cases h : bothErr a b = 0
 ·rw [if_pos h]
  obtain ⟨h1, h2⟩ := bothErr_zero.1 h
  obtain ⟨l1, _⟩ := linesErr_zero h1
  obtain ⟨l2, _⟩ := linesErr_zero h2
  have hl := best_le a b
  refine Ev.pos h (Ev.bs (Ev.bc (found_val a b l1 l2) (Ev.pos (by simp; omega) (Ev.rt ?_))))
  rw [List.nil_append]
 ·rw [if_neg h]
  exact Ev.neg h (Ev.bd (both_ev a b ha hb) (Ev.bs (Ev.now _)))
end Go.Proofs.Ytahpbpacjciddaa.Pr
end
section
namespace Go.Proofs.Ytahpbpacjciddaa.Pr
open Go.RowKit Go.Proofs.YtahpbpacjciddaaW.PrintWords Go.Proofs.YtahpbpacjciddaaW.PrintLast Go.Proofs.YtahpbpacjciddaaW.PrintMore
theorem seg_snoc (a : List ByteArray) {x y : Nat} (hxy : x ≤ y) (hy : y < a.length) : (a.take y).drop x ++ [a.getD y ByteArray.empty] = (a.take (y + 1)).drop x := by
 rw [← seg_join a hxy (Nat.le_succ y), take_one_drop a y hy, List.getD_eq_getElem?_getD, List.getElem?_eq_getElem hy]
 rfl
theorem seg_self (a : List ByteArray) (x : Nat) : (a.take x).drop x = [] := List.drop_eq_nil_of_le (by rw [List.length_take]; omega)
theorem rdiff_piece (a b : List ByteArray) (M : List S77) (p P Q i0 k0 : Nat) (hP : P ≤ a.length) (hQ : Q ≤ b.length) (hM : M[p]? = none ∧ P = a.length ∧ Q = b.length ∨ M[p]? = some (prOf (P, Q))) (out : List S82) :
  ∀ (d n i k : Nat) (cur : Option S82), (P - i) + (Q - k) = d → i0 ≤ i → i ≤ P → k0 ≤ k → k ≤ Q → (i < P → k = k0) → cur.getD ⟨i, [], []⟩ = ⟨(i0 : Int), (a.take i).drop i0, (b.take k).drop k0⟩ →
   ∃ cur', rdiff a b M (n + d) i k p out cur = rdiff a b M n P Q p out cur' ∧ cur'.toList = (if 0 < d then [⟨(i0 : Int), (a.take P).drop i0, (b.take Q).drop k0⟩] else cur.toList) := by
 intro d
 induction d with
 | zero =>
  intro n i k cur hd h1 h2 h3 h4 h5 h6
  obtain rfl : i = P := by omega
  obtain rfl : k = Q := by omega
  exact ⟨cur, rfl, rfl⟩
 | succ d ih =>
  intro n i k cur hd h1 h2 h3 h4 h5 h6
  have hmore : i < a.length ∨ k < b.length := by omega
  have hhit : rdiff.hit M i k p = false := by
   unfold rdiff.hit
   rcases hM with ⟨hM, _⟩ | hM
   ·rw [hM]
   ·rw [hM]
    show (decide ((P : Int) = (i : Int)) && decide ((Q : Int) = (k : Int))) = false
    simp only [Bool.and_eq_false_iff, decide_eq_false_iff_not]
    omega
  have hold : rdiff.old a M i p = decide (i < P) := by
   unfold rdiff.old
   rcases hM with ⟨hM, e1, e2⟩ | hM
   ·rw [hM, e1, Bool.and_true]
   ·rw [hM]
    show (decide (i < a.length) && decide ((i : Int) < (P : Int))) = decide (i < P)
    rw [Bool.eq_iff_iff]
    simp only [Bool.and_eq_true, decide_eq_true_eq]
    omega
  rw [show n + (d + 1) = (n + d) + 1 by omega, rdiff, if_pos hmore, hhit, if_neg Bool.false_ne_true, h6, hold]
  by_cases hi : i < P
  ·rw [decide_eq_true hi, if_pos rfl]
   obtain rfl := h5 hi
   have hc := ih n (i + 1) k (some ⟨(i0 : Int), (a.take i).drop i0 ++ [a.getD i ByteArray.empty], (b.take k).drop k⟩) (by omega) (by omega) (by omega) h3 h4 (fun _ => rfl) (by rw [seg_snoc a h1 (by omega)]; rfl)
   obtain ⟨cur', e1, e2⟩ := hc
   refine ⟨cur', e1, ?_⟩
   rw [if_pos (by omega), e2]
   split
   ·rfl
   ·rename_i hd0
    have e3 : P = i + 1 := by omega
    have e4 : Q = k := by omega
    subst e3 e4
    rw [seg_snoc a h1 (by omega)]
    rfl
  ·rw [decide_eq_false hi, if_neg Bool.false_ne_true, if_pos (by omega)]
   obtain rfl : i = P := by omega
   have hc := ih n i (k + 1) (some ⟨(i0 : Int), (a.take i).drop i0, (b.take k).drop k0 ++ [b.getD k ByteArray.empty]⟩) (by omega) h1 (Nat.le_refl _) (by omega) (by omega) (fun h => by omega) (by rw [seg_snoc b h3 (by omega)]; rfl)
   obtain ⟨cur', e1, e2⟩ := hc
   refine ⟨cur', e1, ?_⟩
   rw [if_pos (by omega), e2]
   split
   ·rfl
   ·rename_i hd0
    have e4 : Q = k + 1 := by omega
    subst e4
    rw [seg_snoc b h3 (by omega)]
    rfl
theorem rdiff_all (a b : List ByteArray) (M : List S77) : ∀ (m : List (Nat × Nat)) (n i k p : Nat) (out : List S82), Match a b i k m → i ≤ a.length → k ≤ b.length → M.drop p = m.map prOf → (a.length - i) + (b.length - k) < n →
  rdiff a b M n i k p out none = some (out ++ diffL a b i k m) := by
 intro m
 induction m with
 | nil =>
  intro n i k p out hm hi hk hM hn
  have hMp : M[p]? = none := by
   rw [List.getElem?_eq_none_iff]
   have := congrArg List.length hM
   rw [List.length_drop] at this
   simp at this
   omega
  obtain ⟨n', rfl⟩ : ∃ n', n = (n' + 1) + ((a.length - i) + (b.length - k)) := ⟨n - 1 - ((a.length - i) + (b.length - k)), by omega⟩
  obtain ⟨cur', e1, e2⟩ := rdiff_piece a b M p a.length b.length i k (Nat.le_refl _) (Nat.le_refl _) (.inl ⟨hMp, rfl, rfl⟩) out _ (n' + 1) i k none rfl (Nat.le_refl _) hi (Nat.le_refl _) hk (fun _ => rfl) (by rw [seg_self, seg_self]; rfl)
  rw [e1, rdiff, if_neg (by omega), e2, diffL_nil]
  congr 2
  by_cases h : i < a.length ∨ k < b.length
  ·rw [pieceL_pos h, if_pos (by omega)]
  ·rw [pieceL_neg h, if_neg (by omega)]
   rfl
 | cons q m ih =>
  intro n i k p out hm hi hk hM hn
  cases hm with
  | cons _ _ _ _ h1 h2 h3 h4 he hm =>
   have hMp : M[p]? = some (prOf (q.1, q.2)) := by
    have h := congrArg (fun l => l[0]?) hM
    simpa using h
   have hMs : M.drop (p + 1) = m.map prOf := by
    rw [← List.drop_drop, hM]
    rfl
   obtain ⟨n', rfl⟩ : ∃ n', n = (n' + 1) + ((q.1 - i) + (q.2 - k)) := ⟨n - 1 - ((q.1 - i) + (q.2 - k)), by omega⟩
   obtain ⟨cur', e1, e2⟩ := rdiff_piece a b M p q.1 q.2 i k (by omega) (by omega) (.inr hMp) out _ (n' + 1) i k none rfl (Nat.le_refl _) h1 (Nat.le_refl _) h2 (fun _ => rfl) (by rw [seg_self, seg_self]; rfl)
   have hhit : rdiff.hit M q.1 q.2 p = true := by
    unfold rdiff.hit
    rw [hMp]
    simp [prOf]
   rw [e1, rdiff, if_pos (by omega), hhit, if_pos rfl, ih n' (q.1 + 1) (q.2 + 1) (p + 1) _ hm (by omega) (by omega) hMs (by omega), e2, diffL_cons, List.append_assoc]
   congr 3
   by_cases h : i < q.1 ∨ k < q.2
   ·rw [pieceL_pos h, if_pos (by omega)]
   ·rw [pieceL_neg h, if_neg (by omega)]
    rfl
theorem rdiff_ev (a b : List ByteArray) (ha : tiny a) (hb : tiny b) : Ev (fun k => ref15_Diff.f k a b) (if bothErr a b = 0 then (diffL a b 0 0 (bestOf a b), (0 : Int)) else (([] : List S82), bothErr a b)) := by
 unfold ref15_Diff.f
 refine Ev.bd (rbest_ev a b ha hb) (Ev.ke ?_)
 unfold ref15_Diff.g
 by_cases h : bothErr a b = 0
 ·rw [if_pos h, if_pos h]
  have hz := bothErr_zero.1 h
  have l0 := (linesErr_zero hz.1).1
  have l1 := (linesErr_zero hz.2).1
  have l2 := best_le a b
  rw [if_pos rfl, if_pos ⟨by omega, by omega, by rw [List.length_map]; omega⟩]
  rw [rdiff_all a b _ (bestOf a b) _ 0 0 0 [] (bestOf_greedy a b).match (Nat.zero_le _) (Nat.zero_le _) (by rw [List.drop_zero]) (by omega)]
  rfl
 ·rw [if_neg h, if_neg h, if_neg h]
end Go.Proofs.Ytahpbpacjciddaa.Pr
end
section
namespace Go.Proofs.Ytahpbpacjciddaa.Pr
open Go.RowKit Go.Proofs.YtahpbpacjciddaaW.PrintWords Go.Proofs.YtahpbpacjciddaaW.PrintLast Go.Proofs.YtahpbpacjciddaaW.PrintMore
theorem kind_ev (b o t : List ByteArray) (hb : b.length ≤ 100000) (ho : o.length ≤ 100000) (ht : t.length ≤ 100000) : Ev (fun k => sidingref18_Kind.f k b o t) (kindB b o t) := by
 unfold sidingref18_Kind.f
 refine Ev.bd (same_ev o t (by omega)) (Ev.bd (same_ev t b (by omega)) (Ev.bd (same_ev o b (by omega)) ?_))
 unfold kindB
 by_cases h1 : o = t
 ·subst h1
  refine Ev.pos (decide_eq_true rfl) (Ev.step (fun k => by rw [sidingref18_Kind.j0]) ?_)
  by_cases h2 : o = b
  ·subst h2
   refine Ev.pos (decide_eq_true rfl) (Ev.rt ?_)
   rw [decide_eq_true rfl]
   rfl
  ·refine Ev.neg (by simp [h2]) (Ev.pos (decide_eq_true rfl) (Ev.rt ?_))
   rw [decide_eq_true rfl, decide_eq_false (Ne.symm h2)]
   rfl
 ·refine Ev.neg (by simp [h1]) (Ev.step (fun k => by rw [sidingref18_Kind.j0]) (Ev.neg Bool.false_ne_true (Ev.neg (by simp [h1]) ?_)))
  rw [decide_eq_false h1]
  by_cases h2 : t = b
  ·subst h2
   refine Ev.pos (decide_eq_true rfl) (Ev.rt ?_)
   rw [decide_eq_true rfl, decide_eq_false (Ne.symm h1)]
   rfl
  ·refine Ev.neg (by simp [h2]) ?_
   rw [decide_eq_false (Ne.symm h2)]
   by_cases h3 : o = b
   ·subst h3
    refine Ev.pos (decide_eq_true rfl) (Ev.rt ?_)
    rw [decide_eq_true rfl]
    rfl
   ·refine Ev.neg (by simp [h3]) (Ev.rt ?_)
    rw [decide_eq_false (Ne.symm h3)]
    rfl
end Go.Proofs.Ytahpbpacjciddaa.Pr
end
