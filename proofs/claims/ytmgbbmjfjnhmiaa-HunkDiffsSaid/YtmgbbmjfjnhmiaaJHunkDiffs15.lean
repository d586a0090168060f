/- Part 15 of the proof of HunkDiffs: texts put together. -/
import Derived.Test.YtmgbbmjfjnhmiaaJHunkDiffs4
import Derived.Test.YtmgbbmjfjnhmiaaJHunkDiffs6
import Derived.Test.YtmgbbmjfjnhmiaaJHunkDiffs10
import Derived.Test.YtmgbbmjfjnhmiaaJHunkDiffs11
import Derived.Test.YtmgbbmjfjnhmiaaJHunkDiffs13
set_option linter.unusedVariables false
set_option linter.unusedSimpArgs false
section
namespace Go.Proofs.Ytmgbbmjfjnhmiaa.Pr
section
variable {α : Type} [DecidableEq α]
def lcsLen : List α → List α → Nat
 | [], _ => 0
 | _ :: _, [] => 0
 | x :: a, y :: b => if x = y then lcsLen a b + 1 else max (lcsLen a (y :: b)) (lcsLen (x :: a) b)
termination_by a b => a.length + b.length
theorem lcsLen_nil_left (b : List α) : lcsLen ([] : List α) b = 0 := by rw [lcsLen]
theorem lcsLen_nil_right (a : List α) : lcsLen a ([] : List α) = 0 := by cases a <;> rw [lcsLen]
theorem lcsLen_cons (x y : α) (a b : List α) : lcsLen (x :: a) (y :: b) = if x = y then lcsLen a b + 1 else max (lcsLen a (y :: b)) (lcsLen (x :: a) b) := by rw [lcsLen]
theorem sub_le : ∀ (n : Nat) (a b c : List α), a.length + b.length = n → c.Sublist a → c.Sublist b → c.length ≤ lcsLen a b := by
 intro n
 induction n using Nat.strongRecOn with
 | _ n ih =>
  intro a b c hn ha hb
  match a, b with
  | [], b => simp [List.sublist_nil.1 ha]
  | x :: a, [] => simp [List.sublist_nil.1 hb]
  | x :: a, y :: b =>
   simp only [List.length_cons] at hn
   rw [lcsLen_cons]
   cases ha with
   | cons _ ha =>
    have h1 := ih (a.length + (y :: b).length) (by simp only [List.length_cons]; omega) a (y :: b) c rfl ha hb
    split
    ·rename_i hxy
     cases hb with
     | cons _ hb =>
      have := ih (a.length + b.length) (by omega) a b c rfl ha hb
      omega
     | cons_cons _ hb =>
      rename_i c'
      have := ih (a.length + b.length) (by omega) a b c' rfl ((List.sublist_cons_self _ _).trans ha) hb
      simp only [List.length_cons]
      omega
    ·omega
   | cons_cons _ ha =>
    rename_i c'
    cases hb with
    | cons _ hb =>
     have h1 := ih ((x :: a).length + b.length) (by simp only [List.length_cons]; omega) (x :: a) b (x :: c') rfl (ha.cons_cons x) hb
     split
     ·rename_i hxy
      have := ih (a.length + b.length) (by omega) a b c' rfl ha ((List.sublist_cons_self _ _).trans hb)
      simp only [List.length_cons]
      omega
     ·omega
    | cons_cons _ hb =>
     rw [if_pos rfl]
     have := ih (a.length + b.length) (by omega) a b c' rfl ha hb
     simp only [List.length_cons]
     omega
theorem sub_ex : ∀ (n : Nat) (a b : List α), a.length + b.length = n → ∃ c : List α, c.Sublist a ∧ c.Sublist b ∧ c.length = lcsLen a b := by
 intro n
 induction n using Nat.strongRecOn with
 | _ n ih =>
  intro a b hn
  match a, b with
  | [], b => exact ⟨[], List.nil_sublist _, List.nil_sublist _, by rw [lcsLen_nil_left]; rfl⟩
  | x :: a, [] => exact ⟨[], List.nil_sublist _, List.nil_sublist _, by rw [lcsLen_nil_right]; rfl⟩
  | x :: a, y :: b =>
   simp only [List.length_cons] at hn
   rw [lcsLen_cons]
   by_cases hxy : x = y
   ·subst hxy
    rw [if_pos rfl]
    obtain ⟨c, h1, h2, h3⟩ := ih (a.length + b.length) (by omega) a b rfl
    exact ⟨x :: c, h1.cons_cons x, h2.cons_cons x, by simp [h3]⟩
   ·rw [if_neg hxy]
    obtain ⟨c, h1, h2, h3⟩ := ih (a.length + (y :: b).length) (by simp only [List.length_cons]; omega) a (y :: b) rfl
    obtain ⟨d, k1, k2, k3⟩ := ih ((x :: a).length + b.length) (by simp only [List.length_cons]; omega) (x :: a) b rfl
    by_cases hm : lcsLen (x :: a) b ≤ lcsLen a (y :: b)
    ·exact ⟨c, h1.cons x, h2, by rw [h3]; omega⟩
    ·exact ⟨d, k1, k2.cons y, by rw [k3]; omega⟩
theorem lcsLen_le_iff {a b : List α} {n : Nat} : lcsLen a b ≤ n ↔ ∀ c : List α, c.Sublist a → c.Sublist b → c.length ≤ n := by
 constructor
 ·intro h c h1 h2
  exact Nat.le_trans (sub_le _ a b c rfl h1 h2) h
 ·intro h
  obtain ⟨c, h1, h2, h3⟩ := sub_ex _ a b rfl
  rw [← h3]
  exact h c h1 h2
theorem lcsLen_comm (a b : List α) : lcsLen a b = lcsLen b a := by
 apply Nat.le_antisymm
 ·exact lcsLen_le_iff.2 fun c h1 h2 => sub_le _ b a c rfl h2 h1
 ·exact lcsLen_le_iff.2 fun c h1 h2 => sub_le _ a b c rfl h2 h1
theorem lcsLen_le_left (a b : List α) : lcsLen a b ≤ a.length := lcsLen_le_iff.2 fun _ h _ => h.length_le
theorem lcsLen_drop_left (a b : List α) (i j : Nat) (h : i ≤ j) : lcsLen (a.drop j) b ≤ lcsLen (a.drop i) b := lcsLen_le_iff.2 fun c h1 h2 => sub_le _ _ b c rfl (h1.trans (by
 have e : a.drop j = (a.drop i).drop (j - i) := by rw [List.drop_drop]; congr 1; omega
 rw [e]
 exact List.drop_sublist _ _)) h2
theorem lcsLen_drop_right (a b : List α) (i j : Nat) (h : i ≤ j) : lcsLen a (b.drop j) ≤ lcsLen a (b.drop i) := by
 rw [lcsLen_comm a, lcsLen_comm a]
 exact lcsLen_drop_left b a i j h
def LL (a b : List α) (i k : Nat) : Nat := lcsLen (a.drop i) (b.drop k)
theorem LL_end_left (a b : List α) (i k : Nat) (h : a.length ≤ i) : LL a b i k = 0 := by
 unfold LL
 rw [List.drop_eq_nil_of_le h, lcsLen_nil_left]
theorem LL_end_right (a b : List α) (i k : Nat) (h : b.length ≤ k) : LL a b i k = 0 := by
 unfold LL
 rw [List.drop_eq_nil_of_le h, lcsLen_nil_right]
theorem LL_step (a b : List α) (i k : Nat) (h1 : i < a.length) (h2 : k < b.length) : LL a b i k = if a[i] = b[k] then LL a b (i + 1) (k + 1) + 1 else max (LL a b (i + 1) k) (LL a b i (k + 1)) := by
 unfold LL
 rw [drop_at a i h1, drop_at b k h2, lcsLen_cons]
theorem LL_mono (a b : List α) {i i' k k' : Nat} (h1 : i ≤ i') (h2 : k ≤ k') : LL a b i' k' ≤ LL a b i k := Nat.le_trans (lcsLen_drop_left a _ i i' h1) (lcsLen_drop_right _ b k k' h2)
theorem LL_pair (a b : List α) {i i' k k' : Nat} (h1 : i ≤ i') (h2 : k ≤ k') (h3 : i' < a.length) (h4 : k' < b.length) (he : a[i'] = b[k']) : LL a b (i' + 1) (k' + 1) + 1 ≤ LL a b i k := by
 have := LL_step a b i' k' h3 h4
 rw [if_pos he] at this
 rw [← this]
 exact LL_mono a b h1 h2
def Good (a b : List α) (i k i' k' : Nat) : Prop := i ≤ i' ∧ k ≤ k' ∧ ∃ (h1 : i' < a.length) (h2 : k' < b.length), a[i'] = b[k'] ∧ LL a b (i' + 1) (k' + 1) + 1 = LL a b i k
instance (a b : List α) (i k i' k' : Nat) : Decidable (Good a b i k i' k') := by unfold Good; infer_instance
theorem Good.ex (a b : List α) : ∀ (n i k : Nat), (a.length - i) + (b.length - k) = n → 0 < LL a b i k → ∃ i' k', Good a b i k i' k' := by
 intro n
 induction n using Nat.strongRecOn with
 | _ n ih =>
  intro i k hn hp
  have h1 : i < a.length := by
   rcases Nat.lt_or_ge i a.length with h | h
   ·exact h
   ·rw [LL_end_left a b i k h] at hp
    omega
  have h2 : k < b.length := by
   rcases Nat.lt_or_ge k b.length with h | h
   ·exact h
   ·rw [LL_end_right a b i k h] at hp
    omega
  have hs := LL_step a b i k h1 h2
  by_cases he : a[i] = b[k]
  ·rw [if_pos he] at hs
   exact ⟨i, k, Nat.le_refl _, Nat.le_refl _, h1, h2, he, by omega⟩
  ·rw [if_neg he] at hs
   by_cases hm : LL a b (i + 1) k = LL a b i k
   ·obtain ⟨i', k', g1, g2, g3, g4, g5, g6⟩ := ih _ (by omega) (i + 1) k rfl (by omega)
    exact ⟨i', k', by omega, g2, g3, g4, g5, by omega⟩
   ·obtain ⟨i', k', g1, g2, g3, g4, g5, g6⟩ := ih _ (by omega) i (k + 1) rfl (by omega)
    exact ⟨i', k', g1, by omega, g3, g4, g5, by omega⟩
def lexLt (p q : Nat × Nat) : Prop := p.1 < q.1 ∨ p.1 = q.1 ∧ p.2 < q.2
instance (p q : Nat × Nat) : Decidable (lexLt p q) := by unfold lexLt; infer_instance
def First (a b : List α) (i k : Nat) (p : Nat × Nat) : Prop := Good a b i k p.1 p.2 ∧ ∀ q : Nat × Nat, Good a b i k q.1 q.2 → ¬ lexLt q p
theorem First.uniq {a b : List α} {i k : Nat} {p q : Nat × Nat} (h : First a b i k p) (h' : First a b i k q) : p = q := by
 have h1 := h.2 q h'.1
 have h2 := h'.2 p h.1
 obtain ⟨p1, p2⟩ := p
 obtain ⟨q1, q2⟩ := q
 simp only [lexLt] at h1 h2
 simp only [Prod.mk.injEq]
 omega
theorem First.ex (a b : List α) (i k : Nat) (hp : 0 < LL a b i k) : ∃ p, First a b i k p := by
 obtain ⟨i0, k0, hg⟩ := Good.ex a b _ i k rfl hp
 have hi : ∃ i', (∃ k', Good a b i k i' k') ∧ ∀ j, j < i' → ¬ ∃ k', Good a b i k j k' := by
  have key : ∀ n, (∃ k', Good a b i k n k') → ∃ i', (∃ k', Good a b i k i' k') ∧ ∀ j, j < i' → ¬ ∃ k', Good a b i k j k' := by
   intro n
   induction n using Nat.strongRecOn with
   | _ n ih =>
    intro hn
    by_cases h : ∃ j, j < n ∧ ∃ k', Good a b i k j k'
    ·obtain ⟨j, hj, hk⟩ := h
     exact ih j hj hk
    ·exact ⟨n, hn, fun j hj hk => h ⟨j, hj, hk⟩⟩
  exact key i0 ⟨k0, hg⟩
 obtain ⟨i1, ⟨k1, hg1⟩, hmin⟩ := hi
 have key : ∀ n, Good a b i k i1 n → ∃ k', Good a b i k i1 k' ∧ ∀ j, j < k' → ¬ Good a b i k i1 j := by
  intro n
  induction n using Nat.strongRecOn with
  | _ n ih =>
   intro hn
   by_cases h : ∃ j, j < n ∧ Good a b i k i1 j
   ·obtain ⟨j, hj, hk⟩ := h
    exact ih j hj hk
   ·exact ⟨n, hn, fun j hj hk => h ⟨j, hj, hk⟩⟩
 obtain ⟨k2, hg2, hmin2⟩ := key k1 hg1
 refine ⟨(i1, k2), hg2, fun q hq hlt => ?_⟩
 rcases hlt with hlt | ⟨he, hlt⟩
 ·exact hmin q.1 hlt ⟨q.2, hq⟩
 ·exact hmin2 q.2 hlt (by
   have e : q.1 = i1 := he
   rw [← e]
   exact hq)
inductive Greedy (a b : List α) : Nat → Nat → List (Nat × Nat) → Prop
 | nil (i k : Nat) (h : LL a b i k = 0) : Greedy a b i k []
 | cons (i k : Nat) (p : Nat × Nat) (m : List (Nat × Nat)) (hf : First a b i k p) (hm : Greedy a b (p.1 + 1) (p.2 + 1) m) : Greedy a b i k (p :: m)
theorem First.pos {a b : List α} {i k : Nat} {p : Nat × Nat} (h : First a b i k p) : 0 < LL a b i k := by
 obtain ⟨⟨_, _, _, _, _, h6⟩, _⟩ := h
 omega
theorem Greedy.uniq {a b : List α} : ∀ {m n : List (Nat × Nat)} {i k : Nat}, Greedy a b i k m → Greedy a b i k n → m = n := by
 intro m
 induction m with
 | nil =>
  intro n i k h h'
  cases h with
  | nil _ _ h0 =>
   cases h' with
   | nil => rfl
   | cons _ _ p m' hf _ => have := hf.pos; omega
 | cons p m ih =>
  intro n i k h h'
  cases h with
  | cons _ _ _ _ hf hm =>
   cases h' with
   | nil _ _ h0 => have := hf.pos; omega
   | cons _ _ q m' hf' hm' =>
    have e := hf.uniq hf'
    subst e
    rw [ih hm hm']
theorem Greedy.ex (a b : List α) : ∀ (n i k : Nat), LL a b i k = n → ∃ m, Greedy a b i k m ∧ m.length = n := by
 intro n
 induction n with
 | zero => exact fun i k h => ⟨[], .nil i k h, rfl⟩
 | succ n ih =>
  intro i k h
  obtain ⟨p, hp⟩ := First.ex a b i k (by omega)
  obtain ⟨m, hm, hl⟩ := ih (p.1 + 1) (p.2 + 1) (by
   obtain ⟨⟨_, _, _, _, _, h6⟩, _⟩ := hp
   omega)
  exact ⟨p :: m, .cons i k p m hp hm, by simp [hl]⟩
theorem Greedy.length {a b : List α} {i k : Nat} {m : List (Nat × Nat)} (h : Greedy a b i k m) : m.length = LL a b i k := by
 obtain ⟨n, hn, hl⟩ := Greedy.ex a b _ i k rfl
 rw [Greedy.uniq h hn, hl]
inductive Match (a b : List α) : Nat → Nat → List (Nat × Nat) → Prop
 | nil (i k : Nat) : Match a b i k []
 | cons (i k : Nat) (p : Nat × Nat) (m : List (Nat × Nat)) (h1 : i ≤ p.1) (h2 : k ≤ p.2) (h3 : p.1 < a.length) (h4 : p.2 < b.length) (he : a[p.1] = b[p.2]) (hm : Match a b (p.1 + 1) (p.2 + 1) m) : Match a b i k (p :: m)
theorem Match.length_le {a b : List α} {i k : Nat} {m : List (Nat × Nat)} (h : Match a b i k m) : m.length ≤ LL a b i k := by
 induction h with
 | nil => simp
 | cons i k p m h1 h2 h3 h4 he hm ih =>
  have := LL_pair a b h1 h2 h3 h4 he
  simp only [List.length_cons]
  omega
theorem Greedy.match {a b : List α} {i k : Nat} {m : List (Nat × Nat)} (h : Greedy a b i k m) : Match a b i k m := by
 induction h with
 | nil i k _ => exact .nil i k
 | cons i k p m hf hm ih =>
  obtain ⟨⟨g1, g2, g3, g4, g5, _⟩, _⟩ := hf
  exact .cons i k p m g1 g2 g3 g4 g5 ih
def before : List (Nat × Nat) → List (Nat × Nat) → Bool
 | p :: m, q :: n => if p.1 ≠ q.1 then decide (p.1 < q.1) else if p.2 ≠ q.2 then decide (p.2 < q.2) else before m n
 | _, _ => false
theorem before_cons (p q : Nat × Nat) (m n : List (Nat × Nat)) : before (p :: m) (q :: n) = (decide (lexLt p q) || (decide (p = q) && before m n)) := by
 obtain ⟨p1, p2⟩ := p
 obtain ⟨q1, q2⟩ := q
 simp only [before, lexLt, Prod.mk.injEq]
 by_cases h1 : p1 = q1
 ·subst h1
  by_cases h2 : p2 = q2
  ·subst h2
   simp
  ·simp [h2]
 ·simp [h1]
theorem Greedy.first {a b : List α} {i k : Nat} {m : List (Nat × Nat)} (h : Greedy a b i k m) : ∀ n : List (Nat × Nat), Match a b i k n → n.length = m.length → before n m = false := by
 induction h with
 | nil i k _ =>
  intro n _ hl
  have : n = [] := List.eq_nil_of_length_eq_zero hl
  subst this
  rfl
 | cons i k p m hf hm ih =>
  intro n hn hl
  cases hn with
  | nil => simp at hl
  | cons _ _ q n h1 h2 h3 h4 he hn =>
   simp only [List.length_cons] at hl
   have hq : Good a b i k q.1 q.2 := by
    refine ⟨h1, h2, h3, h4, he, ?_⟩
    have k1 := LL_pair a b h1 h2 h3 h4 he
    have k2 := hn.length_le
    have k3 := hm.length
    have k4 : LL a b (p.1 + 1) (p.2 + 1) + 1 = LL a b i k := by
     obtain ⟨⟨_, _, _, _, _, g6⟩, _⟩ := hf
     exact g6
    omega
   have hlt := hf.2 q hq
   rw [before_cons, decide_eq_false hlt, Bool.false_or]
   by_cases e : q = p
   ·subst e
    rw [ih n hn (by omega), Bool.and_false]
   ·rw [decide_eq_false e, Bool.false_and]
def betterP (m n : List (Nat × Nat)) : List (Nat × Nat) := if n.length > m.length then n else if n.length = m.length ∧ before n m = true then n else m
theorem before_irrefl : ∀ m : List (Nat × Nat), before m m = false
 | [] => rfl
 | p :: m => by
  rw [before_cons, before_irrefl m]
  simp [lexLt]
theorem Greedy.step_ne {a b : List α} {i k : Nat} (h1 : i < a.length) (h2 : k < b.length) (hne : a[i] ≠ b[k]) {m n : List (Nat × Nat)} (hm : Greedy a b (i + 1) k m) (hn : Greedy a b i (k + 1) n) : Greedy a b i k (betterP m n) := by
 have hs := LL_step a b i k h1 h2
 rw [if_neg hne] at hs
 have lm := hm.length
 have ln := hn.length
 have down : ∀ q : Nat × Nat, Good a b i k q.1 q.2 → (LL a b (i + 1) k = LL a b i k ∧ Good a b (i + 1) k q.1 q.2) ∨ (LL a b i (k + 1) = LL a b i k ∧ Good a b i (k + 1) q.1 q.2) := by
  rintro q ⟨g1, g2, g3, g4, g5, g6⟩
  by_cases hi : q.1 = i
  ·have hk : q.2 ≠ k := by
    intro hk
    apply hne
    have : a[q.1] = b[q.2] := g5
    simpa [hi, hk] using this
   right
   have := LL_pair a b (i := i) (k := k + 1) g1 (by omega) g3 g4 g5
   have e : LL a b i (k + 1) = LL a b i k := by omega
   exact ⟨e, g1, by omega, g3, g4, g5, by omega⟩
  ·left
   have := LL_pair a b (i := i + 1) (k := k) (by omega) g2 g3 g4 g5
   have e : LL a b (i + 1) k = LL a b i k := by omega
   exact ⟨e, by omega, g2, g3, g4, g5, by omega⟩
 have upm : ∀ q : Nat × Nat, LL a b (i + 1) k = LL a b i k → Good a b (i + 1) k q.1 q.2 → Good a b i k q.1 q.2 := by
  rintro q e ⟨g1, g2, g3, g4, g5, g6⟩
  exact ⟨by omega, g2, g3, g4, g5, by omega⟩
 have upn : ∀ q : Nat × Nat, LL a b i (k + 1) = LL a b i k → Good a b i (k + 1) q.1 q.2 → Good a b i k q.1 q.2 := by
  rintro q e ⟨g1, g2, g3, g4, g5, g6⟩
  exact ⟨g1, by omega, g3, g4, g5, by omega⟩
 unfold betterP
 by_cases c1 : n.length > m.length
 ·rw [if_pos c1]
  cases hn with
  | nil => simp at c1
  | cons _ _ q n hf hn =>
   refine .cons i k q n ⟨upn q (by omega) hf.1, fun r hr => ?_⟩ hn
   rcases down r hr with ⟨e, _⟩ | ⟨_, hr⟩
   ·omega
   ·exact hf.2 r hr
 ·rw [if_neg c1]
  by_cases c2 : n.length = m.length
  ·cases hm with
   | nil _ _ h0 =>
    have : n = [] := List.eq_nil_of_length_eq_zero c2
    subst this
    simp only [before, Bool.false_eq_true, and_false, if_false]
    exact .nil i k (by omega)
   | cons _ _ p m hfm hm' =>
    cases hn with
    | nil => simp at c2
    | cons _ _ q n hfn hn' =>
     rw [before_cons]
     have em : LL a b (i + 1) k = LL a b i k := by omega
     have en : LL a b i (k + 1) = LL a b i k := by omega
     by_cases hlt : lexLt q p
     ·rw [if_pos ⟨c2, by simp [hlt]⟩]
      refine .cons i k q n ⟨upn q en hfn.1, fun r hr hrq => ?_⟩ hn'
      rcases down r hr with ⟨_, hr⟩ | ⟨_, hr⟩
      ·refine hfm.2 r hr ?_
       simp only [lexLt] at hlt hrq ⊢
       omega
      ·exact hfn.2 r hr hrq
     ·have first : First a b i k p := by
       refine ⟨upm p em hfm.1, fun r hr hrp => ?_⟩
       rcases down r hr with ⟨_, hr⟩ | ⟨_, hr⟩
       ·exact hfm.2 r hr hrp
       ·have := hfn.2 r hr
        apply this
        simp only [lexLt] at hlt hrp ⊢
        omega
      by_cases e : q = p
      ·subst e
       have : n = m := Greedy.uniq hn' hm'
       subst this
       rw [before_irrefl]
       simp only [hlt, decide_false, Bool.and_false, Bool.or_false, Bool.false_eq_true, and_false, if_false]
       exact .cons i k q n first hm'
      ·rw [if_neg (by simp [hlt, e])]
       exact .cons i k p m first hm'
  ·rw [if_neg (fun h => c2 h.1)]
   cases hm with
   | nil _ _ h0 =>
    simp only [List.length_nil] at c1 c2
    omega
   | cons _ _ p m hf hm' =>
    refine .cons i k p m ⟨upm p (by omega) hf.1, fun r hr => ?_⟩ hm'
    rcases down r hr with ⟨_, hr⟩ | ⟨e, _⟩
    ·exact hf.2 r hr
    ·omega
theorem Greedy.step_eq {a b : List α} {i k : Nat} (h1 : i < a.length) (h2 : k < b.length) (he : a[i] = b[k]) {m : List (Nat × Nat)} (hm : Greedy a b (i + 1) (k + 1) m) : Greedy a b i k ((i, k) :: m) := by
 have hs := LL_step a b i k h1 h2
 rw [if_pos he] at hs
 refine .cons i k (i, k) m ⟨⟨Nat.le_refl _, Nat.le_refl _, h1, h2, he, hs.symm⟩, ?_⟩ hm
 rintro q ⟨g1, g2, _⟩ hq
 simp only [lexLt] at hq
 omega
theorem Greedy.head_ge {a b : List α} {i k : Nat} {p : Nat × Nat} {m : List (Nat × Nat)} (h : Greedy a b i k (p :: m)) : i ≤ p.1 ∧ k ≤ p.2 := by
 cases h with
 | cons _ _ _ _ hf _ => exact ⟨hf.1.1, hf.1.2.1⟩
theorem Greedy.step_all {a b : List α} {i k : Nat} (h1 : i < a.length) (h2 : k < b.length) {m n c : List (Nat × Nat)} (hm : Greedy a b (i + 1) k m) (hn : Greedy a b i (k + 1) n) (hc : Greedy a b (i + 1) (k + 1) c) :
  Greedy a b i k (if a[i] = b[k] then betterP (betterP m n) ((i, k) :: c) else betterP m n) := by
 by_cases he : a[i] = b[k]
 ·rw [if_pos he]
  have hg := Greedy.step_eq h1 h2 he hc
  have lg := hg.length
  have lm := hm.length
  have ln := hn.length
  have l1 : LL a b (i + 1) k ≤ LL a b i k := LL_mono a b (Nat.le_succ i) (Nat.le_refl k)
  have l2 : LL a b i (k + 1) ≤ LL a b i k := LL_mono a b (Nat.le_refl i) (Nat.le_succ k)
  have key : betterP (betterP m n) ((i, k) :: c) = (i, k) :: c := by
   have hb : (betterP m n = m ∨ betterP m n = n) := by
    unfold betterP
    split
    ·exact .inr rfl
    ·split
     ·exact .inr rfl
     ·exact .inl rfl
   have later : ∀ x : List (Nat × Nat), x.length ≤ ((i, k) :: c).length → (∀ p y, x = p :: y → i ≤ p.1 ∧ k ≤ p.2 ∧ p ≠ (i, k)) → betterP x ((i, k) :: c) = (i, k) :: c := by
    intro x hx hf
    unfold betterP
    by_cases c1 : ((i, k) :: c).length > x.length
    ·rw [if_pos c1]
    ·rw [if_neg c1]
     cases x with
     | nil => simp at c1
     | cons p y =>
      have := hf p y rfl
      rw [if_pos]
      refine ⟨by omega, ?_⟩
      rw [before_cons]
      obtain ⟨p1, p2⟩ := p
      simp only [ne_eq, Prod.mk.injEq, not_and] at this
      have hl : lexLt (i, k) (p1, p2) := by
       simp only [lexLt]
       omega
      simp [hl]
   rcases hb with hb | hb
   ·rw [hb]
    refine later m (by omega) (fun p y e => ?_)
    subst e
    have := hm.head_ge
    refine ⟨by omega, this.2, fun e => ?_⟩
    rw [e] at this
    simp only at this
    omega
   ·rw [hb]
    refine later n (by omega) (fun p y e => ?_)
    subst e
    have := hn.head_ge
    refine ⟨this.1, by omega, fun e => ?_⟩
    rw [e] at this
    simp only at this
    omega
  rw [key]
  exact hg
 ·rw [if_neg he]
  exact Greedy.step_ne h1 h2 he hm hn
end
end Go.Proofs.Ytmgbbmjfjnhmiaa.Pr
end
section
namespace Go.Proofs.Ytmgbbmjfjnhmiaa.Pr
open Go.RowKit Go.Proofs.YtmgbbmjfjnhmiaaW.PrintWords Go.Proofs.YtmgbbmjfjnhmiaaW.PrintLast Go.Proofs.YtmgbbmjfjnhmiaaW.PrintMore
def tiny (l : List ByteArray) : Prop := ∀ s ∈ l, s.size ≤ 1000000000
theorem tiny.small {l : List ByteArray} (h : tiny l) : small l := fun s hs => by have := h s hs; omega
theorem tiny.take {l : List ByteArray} (h : tiny l) (i : Nat) : tiny (l.take i) := fun s hs => h s (List.mem_of_mem_take hs)
theorem tiny.drop {l : List ByteArray} (h : tiny l) (i : Nat) : tiny (l.drop i) := fun s hs => h s (List.mem_of_mem_drop hs)
theorem tiny.append {l m : List ByteArray} (h : tiny l) (k : tiny m) : tiny (l ++ m) := fun s hs => (List.mem_append.1 hs).elim (h s) (k s)
theorem bytesIn_tiny (l : List ByteArray) (h : tiny l) : bytesIn l ≤ l.length * 1000000000 := by
 induction l with
 | nil => simp [bytesIn]
 | cons s l ih =>
  have h1 := h s (by simp)
  have h2 := ih (fun x hx => h x (by simp [hx]))
  simp only [bytesIn, List.map_cons, List.sum_cons, List.length_cons] at h2 ⊢
  omega
def fed (l : List ByteArray) : List Int := (l.map fun s => 10 :: bytesOf s).flatten
def textOf (l : List ByteArray) : List Int := (fed l).drop 1
theorem fed_length (l : List ByteArray) : (fed l).length = bytesIn l + l.length := by
 induction l with
 | nil => rfl
 | cons s l ih =>
  have e : fed (s :: l) = (10 :: bytesOf s) ++ fed l := by simp [fed]
  rw [e, List.length_append, ih, List.length_cons, bytesOf_length]
  simp only [bytesIn, List.map_cons, List.sum_cons, List.length_cons]
  omega
theorem textOf_length (l : List ByteArray) : (textOf l).length = bytesIn l + l.length - 1 := by
 rw [textOf, List.length_drop, fed_length]
theorem fed_take_succ (l : List ByteArray) (i : Nat) (h : i < l.length) : fed (l.take (i + 1)) = fed (l.take i) ++ 10 :: bytesOf l[i] := by
 unfold fed
 rw [take_succ_at l i h, List.map_append, List.flatten_append]
 simp
theorem textOf_take_succ (l : List ByteArray) (i : Nat) (h : i < l.length) : textOf (l.take (i + 1)) = if i = 0 then bytesOf l[i] else textOf (l.take i) ++ 10 :: bytesOf l[i] := by
 unfold textOf
 rw [fed_take_succ l i h]
 by_cases h0 : i = 0
 ·subst h0
  simp [fed]
 ·rw [if_neg h0]
  have := fed_length (l.take i)
  have h1 : (l.take i).length = i := by rw [List.length_take]; omega
  rw [List.drop_append_of_le_length (by omega)]
end Go.Proofs.Ytmgbbmjfjnhmiaa.Pr
end
section
namespace Go.Proofs.Ytmgbbmjfjnhmiaa.Pr
open Go.RowKit Go.Proofs.YtmgbbmjfjnhmiaaW.PrintWords Go.Proofs.YtmgbbmjfjnhmiaaW.PrintLast Go.Proofs.YtmgbbmjfjnhmiaaW.PrintMore
theorem text_loop (l : List ByteArray) (hs : tiny l) (hl : l.length ≤ 100000) : ∀ (d i : Nat), i + d = l.length → Ev (fun k => sidingref13_Text.l0 k l (textOf (l.take i)) (i : Int)) (textOf l) := by
 intro d
 induction d with
 | zero =>
  intro i hi
  obtain rfl : i = l.length := by omega
  refine Ev.step (fun k => by rw [sidingref13_Text.l0]) (Ev.neg (by omega) ?_)
  rw [List.take_length]
  exact Ev.now _
 | succ d ih =>
  intro i hi
  have hlt : i < l.length := by omega
  have hb := bytesIn_tiny _ (hs.take (i + 1))
  have hb1 := bytesIn_take_succ l i hlt
  have hk : (l.take (i + 1)).length = i + 1 := by rw [List.length_take]; omega
  have hk' : (l.take i).length = i := by rw [List.length_take]; omega
  have ht := textOf_length (l.take i)
  refine Ev.step (fun k => by rw [sidingref13_Text.l0]) (Ev.pos (by omega) ?_)
  have h := ih (i + 1) (by omega)
  rw [textOf_take_succ l i hlt] at h
  rw [rdOf_at _ _ _ hlt, w64 (by omega)]
  by_cases h0 : i = 0
  ·subst h0
   rw [if_pos rfl] at h
   refine Ev.neg (by omega) (Ev.pos (by omega) (Ev.pos (by omega) ?_))
   simpa [textOf, fed] using h
  ·rw [if_neg h0] at h
   refine Ev.pos (by omega) (Ev.pos (by omega) (Ev.bs (Ev.pos (by omega) (Ev.pos ?_ ?_))))
   ·rw [List.length_append, List.length_singleton]
    omega
   ·simpa using h
theorem text_ev (l : List ByteArray) (hs : tiny l) (hl : l.length ≤ 100000) : Ev (fun k => sidingref13_Text.f k l) (textOf l) := by
 unfold sidingref13_Text.f
 have h := text_loop l hs hl l.length 0 (by omega)
 simpa [textOf, fed] using h
theorem feed_ev (l : List ByteArray) (hs : tiny l) : ref13_Feed.f l = some (l.any feedy) := by
 unfold ref13_Feed.f
 rw [if_pos]
 exact List.all_eq_true.2 fun s hm => decide_eq_true (by have := hs s hm; omega)
theorem rlines_ev (l : List ByteArray) (hs : tiny l) : Ev (fun k => sidingref13_Lines.f k l) (linesErr l) := by
 unfold sidingref13_Lines.f linesErr
 by_cases h1 : 60 < l.length
 ·rw [if_pos h1]
  exact Ev.pos (by omega) (Ev.step (fun k => by rw [sidingref13_Lines.j0]) (Ev.pos rfl (Ev.now _)))
 ·rw [if_neg h1]
  refine Ev.neg (by omega) (Ev.bd (text_ev l hs (by omega)) ?_)
  have ht := textOf_length l
  refine Ev.step (fun k => by rw [sidingref13_Lines.j0]) ?_
  by_cases h2 : 2001 < bytesIn l + l.length
  ·rw [if_pos h2]
   exact Ev.pos (decide_eq_true (by omega)) (Ev.now _)
  ·rw [if_neg h2]
   refine Ev.neg (by simp; omega) ?_
   by_cases h3 : l.length = 0
   ·rw [if_pos h3]
    exact Ev.pos (by omega) (Ev.now _)
   ·rw [if_neg h3]
    refine Ev.neg (by omega) (Ev.bc (feed_ev l hs) ?_)
    by_cases h4 : l.any feedy = true
    ·exact Ev.pos h4 (Ev.rt (if_pos h4).symm)
    ·exact Ev.neg h4 (Ev.rt (if_neg h4).symm)
def longOf (l : List ByteArray) : Bool := (l.take 201).any (fun s => decide (3000 < s.size)) || decide (200 < l.length)
theorem long_loop (l : List ByteArray) (hl : l.length ≤ 9000000000000000000) : ∀ (d i : Nat), i + d = 201 → Ev (fun k => sidingref13_Long.l0 k l (i : Int)) (((l.take 201).drop i).any (fun s => decide (3000 < s.size)) || decide (200 < l.length)) := by
 intro d
 induction d with
 | zero =>
  intro i hi
  obtain rfl : i = 201 := by omega
  have e : (l.take 201).drop 201 = [] := List.drop_eq_nil_of_le (by rw [List.length_take]; omega)
  rw [e]
  refine Ev.step (fun k => by rw [sidingref13_Long.l0]) ?_
  by_cases h : 201 < l.length
  ·refine Ev.pos (by omega) (Ev.step (fun k => by rw [sidingref13_Long.j1]) (Ev.neg (by decide) (Ev.rt ?_)))
   simp
   omega
  ·refine Ev.neg (by omega) (Ev.step (fun k => by rw [sidingref13_Long.j1]) (Ev.neg (by decide) (Ev.rt ?_)))
   simp
   omega
 | succ d ih =>
  intro i hi
  refine Ev.step (fun k => by rw [sidingref13_Long.l0]) ?_
  by_cases h : i < l.length
  ·have hlt : i < (l.take 201).length := by rw [List.length_take]; omega
   have e : (l.take 201).drop i = l[i] :: (l.take 201).drop (i + 1) := by rw [drop_at _ i hlt]; simp
   rw [e, List.any_cons]
   refine Ev.pos (by omega) (Ev.step (fun k => by rw [sidingref13_Long.j1]) (Ev.pos (by simp; omega) (Ev.pos (by omega) (Ev.pos (by omega) ?_))))
   rw [rdOf_at _ _ _ h, w64 (by omega)]
   by_cases h3 : 3000 < l[i].size
   ·refine Ev.pos (by omega) (Ev.rt ?_)
    simp [h3]
   ·refine Ev.neg (by omega) ?_
    have := ih (i + 1) (by omega)
    simpa [h3] using this
  ·have e : (l.take 201).drop i = [] := List.drop_eq_nil_of_le (by rw [List.length_take]; omega)
   rw [e]
   refine Ev.neg (by omega) (Ev.step (fun k => by rw [sidingref13_Long.j1]) (Ev.neg (by decide) (Ev.rt ?_)))
   simp
   omega
theorem long_ev (l : List ByteArray) (hl : l.length ≤ 9000000000000000000) : Ev (fun k => sidingref13_Long.f k l) (longOf l) := by
 unfold sidingref13_Long.f
 have h := long_loop l hl 201 0 (by omega)
 simpa [longOf] using h
theorem longOf_false {l : List ByteArray} (h : longOf l = false) : l.length ≤ 200 ∧ ∀ s ∈ l, s.size ≤ 3000 := by
 unfold longOf at h
 rw [Bool.or_eq_false_iff] at h
 obtain ⟨h1, h2⟩ := h
 have hl : l.length ≤ 200 := by simpa using h2
 rw [List.take_of_length_le (by omega), List.any_eq_false] at h1
 exact ⟨hl, fun s hs => by simpa using h1 s hs⟩
theorem longOf_tiny {l : List ByteArray} (h : longOf l = false) : l.length ≤ 200 ∧ tiny l := ⟨(longOf_false h).1, fun s hs => by have := (longOf_false h).2 s hs; omega⟩
theorem same_loop (a b : List ByteArray) (hl : a.length = b.length) (hb : a.length ≤ 9000000000000000000) : ∀ (d i : Nat), i + d = a.length → Ev (fun k => sidingref13_Same.l0 k a b (i : Int)) (decide (a.drop i = b.drop i)) := by
 intro d
 induction d with
 | zero =>
  intro i hi
  obtain rfl : i = a.length := by omega
  refine Ev.step (fun k => by rw [sidingref13_Same.l0]) (Ev.neg (by omega) (Ev.rt ?_))
  rw [List.drop_length, hl, List.drop_length]
  rfl
 | succ d ih =>
  intro i hi
  have h1 : i < a.length := by omega
  have h2 : i < b.length := by omega
  refine Ev.step (fun k => by rw [sidingref13_Same.l0]) (Ev.pos (by omega) (Ev.pos (by omega) (Ev.pos (by omega) ?_)))
  rw [rdOf_at _ _ _ h1, rdOf_at _ _ _ h2, w64 (by omega), drop_at a i h1, drop_at b i h2]
  by_cases h : a[i] = b[i]
  ·refine Ev.pos (toList_inj.2 h) ?_
   refine Ev.eq ?_ (ih (i + 1) (by omega))
   rw [Bool.eq_iff_iff, decide_eq_true_iff, decide_eq_true_iff, h, List.cons.injEq]
   simp
  ·refine Ev.neg (fun e => h (toList_inj.1 e)) (Ev.rt ?_)
   symm
   rw [decide_eq_false_iff_not, List.cons.injEq]
   exact fun e => h e.1
theorem same_ev (a b : List ByteArray) (hb : a.length ≤ 9000000000000000000) : Ev (fun k => sidingref13_Same.f k a b) (decide (a = b)) := by
 unfold sidingref13_Same.f
 by_cases h : a.length = b.length
 ·refine Ev.pos (by omega) ?_
  have := same_loop a b h hb a.length 0 (by omega)
  simpa using this
 ·refine Ev.neg (by omega) (Ev.rt ?_)
  symm
  rw [decide_eq_false_iff_not]
  intro e
  exact h (by rw [e])
end Go.Proofs.Ytmgbbmjfjnhmiaa.Pr
end
section
namespace Go.Proofs.Ytmgbbmjfjnhmiaa.Pr
open Go.RowKit Go.Proofs.YtmgbbmjfjnhmiaaW.PrintWords Go.Proofs.YtmgbbmjfjnhmiaaW.PrintLast Go.Proofs.YtmgbbmjfjnhmiaaW.PrintMore
def bothErr (a b : List ByteArray) : Int := if linesErr a = 0 then linesErr b else linesErr a
theorem bothErr_zero {a b : List ByteArray} : bothErr a b = 0 ↔ linesErr a = 0 ∧ linesErr b = 0 := by
 unfold bothErr
 split
 ·rename_i h
  simp [h]
 ·rename_i h
  simp [h]
theorem lcheck_val (a b : List ByteArray) (ha : small a) (hb : small b) : lcs_check.f a b = some (bothErr a b) := by
 unfold lcs_check.f bothErr
 rw [join_val a ha, join_val b hb]
 by_cases h1 : linesErr a = 0
 ·rw [if_pos h1, if_pos h1]
  by_cases h2 : linesErr b = 0
  ·simp [h2]
  ·simp [h2]
 ·rw [if_neg h1, if_neg h1]
  simp [h1]
def tab (n m : Nat) (f : Nat → Nat → Int) : List (List Int) := (List.range n).map fun i => (List.range m).map fun k => f i k
theorem tab_length (n m : Nat) (f : Nat → Nat → Int) : (tab n m f).length = n := by simp [tab]
theorem tab_row (n m : Nat) (f : Nat → Nat → Int) (i : Nat) (h : i < n) : rd_Li64 (tab n m f) (i : Int) = (List.range m).map fun k => f i k := by
 simp [rd_Li64, tab, h]
theorem tab_row_length (n m : Nat) (f : Nat → Nat → Int) (i : Nat) (h : i < n) : (rd_Li64 (tab n m f) (i : Int)).length = m := by
 rw [tab_row n m f i h]
 simp
theorem tab_at (n m : Nat) (f : Nat → Nat → Int) (i k : Nat) (h : i < n) (h2 : k < m) : rd (rd_Li64 (tab n m f) (i : Int)) (k : Int) = f i k := by
 rw [tab_row n m f i h, rd_at _ k (by simpa using h2)]
 simp
theorem tab_congr (n m : Nat) {f g : Nat → Nat → Int} (h : ∀ i, i < n → ∀ k, k < m → f i k = g i k) : tab n m f = tab n m g := by
 unfold tab
 apply List.map_congr_left
 intro i hi
 apply List.map_congr_left
 intro k hk
 exact h i (List.mem_range.1 hi) k (List.mem_range.1 hk)
theorem range_map_set {β : Type} (m : Nat) (f : Nat → β) (k : Nat) (v : β) : ((List.range m).map f).set k v = (List.range m).map fun j => if j = k then v else f j := by
 apply List.ext_getElem
 ·simp
 ·intro j h1 h2
  have hj : j < m := by simpa using h1
  rw [List.getElem_set]
  simp only [List.getElem_map, List.getElem_range]
  by_cases e : k = j
  ·subst e
   simp
  ·rw [if_neg e, if_neg (fun h => e h.symm)]
theorem tab_set (n m : Nat) (f : Nat → Nat → Int) (i k : Nat) (h : i < n) (v : Int) : (tab n m f).set i ((rd_Li64 (tab n m f) (i : Int)).set k v) = tab n m fun j l => if j = i ∧ l = k then v else f j l := by
 rw [tab_row n m f i h, range_map_set]
 unfold tab
 rw [range_map_set]
 apply List.map_congr_left
 intro j hj
 by_cases e : j = i
 ·subst e
  simp
 ·simp [e]
def fillF (a b : List ByteArray) (i k j m : Nat) : Int := if i < j ∨ (i = j ∧ k ≤ m) then (LL a b j m : Int) else 0
theorem fill_end (a b : List ByteArray) (i : Nat) : fillF a b i b.length = fillF a b (i + 1) 0 := by
 funext j m
 unfold fillF
 by_cases h : i < j
 ·rw [if_pos (.inl h), if_pos]
  omega
 ·by_cases h2 : i = j ∧ b.length ≤ m
  ·rw [if_pos (.inr h2), if_neg (by omega), LL_end_right a b j m h2.2]
   rfl
  ·rw [if_neg (by omega), if_neg (by omega)]
theorem table_l2 (a b : List ByteArray) (ha : a.length ≤ 60) (hb : b.length ≤ 60) (i : Nat) (hi : i < a.length) (r : List (List Int))
  (hnext : Ev (fun k => lcs_table.l1 k a b (tab (a.length + 1) (b.length + 1) (fillF a b i 0)) ((i : Int) - 1)) r) : ∀ k, k ≤ b.length →
  Ev (fun n => lcs_table.l2 n a b (tab (a.length + 1) (b.length + 1) (fillF a b i k)) (i : Int) ((k : Int) - 1)) r := by
 intro k
 induction k with
 | zero =>
  intro _
  refine Ev.step (fun n => by rw [lcs_table.l2]) ?_
  refine Ev.neg (by omega) ?_
  rw [w64 (by omega)]
  exact hnext
 | succ k ih =>
  intro hk
  have h2 : k < b.length := by omega
  have e0 : ((k + 1 : Nat) : Int) - 1 = (k : Int) := by omega
  rw [e0]
  have hT := tab_length (a.length + 1) (b.length + 1) (fillF a b i (k + 1))
  have hr1 := tab_row_length (a.length + 1) (b.length + 1) (fillF a b i (k + 1)) (i + 1) (by omega)
  have hr0 := tab_row_length (a.length + 1) (b.length + 1) (fillF a b i (k + 1)) i (by omega)
  have ci : ((i : Int) + 1) = ((i + 1 : Nat) : Int) := by omega
  have ck : ((k : Int) + 1) = ((k + 1 : Nat) : Int) := by omega
  have hb1 := lcsLen_le_left (a.drop (i + 1)) (b.drop (k + 1))
  rw [List.length_drop] at hb1
  have hs := LL_step a b i k hi h2
  refine Ev.step (fun n => by rw [lcs_table.l2]) ?_
  rw [w64 (x := (i : Int) + 1) (by omega), w64 (x := (k : Int) + 1) (by omega), w64 (x := (k : Int) - 1) (by omega), rdOf_at _ a i hi, rdOf_at _ b k h2, ci, ck]
  refine Ev.pos (by omega) (Ev.pos (by omega) (Ev.pos (by omega) (Ev.pos (by omega) (Ev.pos (by omega) ?_))))
  rw [hT, hr1, hr0, tab_at _ _ _ _ _ (by omega) (by omega), tab_at _ _ _ _ _ (by omega) (by omega), tab_at _ _ _ _ _ (by omega) (by omega), Int.toNat_natCast, Int.toNat_natCast, tab_set _ _ _ _ _ (by omega), tab_set _ _ _ _ _ (by omega)]
  by_cases h : a[i] = b[k]
  ·refine Ev.pos (toList_inj.2 h) (Ev.pos (by omega) (Ev.pos (by omega) (Ev.pos (by omega) (Ev.pos (by omega) (Ev.pos (by omega) (Ev.pos (by omega) ?_))))))
   rw [if_pos h] at hs
   have hv : fillF a b i (k + 1) (i + 1) (k + 1) = (LL a b (i + 1) (k + 1) : Int) := by
    unfold fillF
    rw [if_pos (.inl (Nat.lt_succ_self i))]
   rw [hv, w64 (by unfold LL; omega)]
   have e : (tab (a.length + 1) (b.length + 1) fun j l => if j = i ∧ l = k then 1 + (LL a b (i + 1) (k + 1) : Int) else fillF a b i (k + 1) j l) = tab (a.length + 1) (b.length + 1) (fillF a b i k) := by
    apply tab_congr
    intro j hj l hl
    by_cases c : j = i ∧ l = k
    ·obtain ⟨rfl, rfl⟩ := c
     rw [if_pos ⟨rfl, rfl⟩]
     unfold fillF
     rw [if_pos (.inr ⟨rfl, Nat.le_refl _⟩), hs]
     omega
    ·rw [if_neg c]
     unfold fillF
     by_cases c2 : i < j ∨ (i = j ∧ k + 1 ≤ l)
     ·rw [if_pos c2, if_pos (by omega)]
     ·rw [if_neg c2, if_neg (by omega)]
   rw [e]
   exact ih (by omega)
  ·refine Ev.neg (fun e => h (toList_inj.1 e)) (Ev.pos (by omega) (Ev.pos (by omega) (Ev.pos (by omega) (Ev.pos (by omega) (Ev.pos (by omega) (Ev.pos (by omega) (Ev.pos (by omega) ?_)))))))
   rw [if_neg h] at hs
   have hv : fillF a b i (k + 1) (i + 1) k = (LL a b (i + 1) k : Int) := by
    unfold fillF
    rw [if_pos (.inl (Nat.lt_succ_self i))]
   have hv2 : fillF a b i (k + 1) i (k + 1) = (LL a b i (k + 1) : Int) := by
    unfold fillF
    rw [if_pos (.inr ⟨rfl, Nat.le_refl _⟩)]
   rw [hv, hv2, mx_eq]
   have e : (tab (a.length + 1) (b.length + 1) fun j l => if j = i ∧ l = k then ((max (LL a b (i + 1) k) (LL a b i (k + 1)) : Nat) : Int) else fillF a b i (k + 1) j l) = tab (a.length + 1) (b.length + 1) (fillF a b i k) := by
    apply tab_congr
    intro j hj l hl
    by_cases c : j = i ∧ l = k
    ·obtain ⟨rfl, rfl⟩ := c
     rw [if_pos ⟨rfl, rfl⟩]
     unfold fillF
     rw [if_pos (.inr ⟨rfl, Nat.le_refl _⟩), hs]
    ·rw [if_neg c]
     unfold fillF
     by_cases c2 : i < j ∨ (i = j ∧ k + 1 ≤ l)
     ·rw [if_pos c2, if_pos (by omega)]
     ·rw [if_neg c2, if_neg (by omega)]
   rw [e]
   exact ih (by omega)
def tableOf (a b : List ByteArray) : List (List Int) := tab (a.length + 1) (b.length + 1) fun i k => (LL a b i k : Int)
theorem fill_all (a b : List ByteArray) : tab (a.length + 1) (b.length + 1) (fillF a b 0 0) = tableOf a b := by
 apply tab_congr
 intro i _ k _
 unfold fillF
 rw [if_pos (by omega)]
theorem table_l1 (a b : List ByteArray) (ha : a.length ≤ 60) (hb : b.length ≤ 60) : ∀ n, n ≤ a.length → Ev (fun k => lcs_table.l1 k a b (tab (a.length + 1) (b.length + 1) (fillF a b n 0)) ((n : Int) - 1)) (tableOf a b) := by
 intro n
 induction n with
 | zero =>
  intro _
  refine Ev.step (fun k => by rw [lcs_table.l1]) ?_
  exact Ev.neg (by omega) (Ev.rt (fill_all a b))
 | succ n ih =>
  intro hn
  have e0 : ((n + 1 : Nat) : Int) - 1 = (n : Int) := by omega
  rw [e0]
  refine Ev.step (fun k => by rw [lcs_table.l1]) ?_
  refine Ev.pos (by omega) ?_
  rw [w64 (by omega), ← fill_end a b n]
  exact table_l2 a b ha hb n (by omega) (tableOf a b) (ih (by omega)) b.length (Nat.le_refl _)
theorem table_l0 (a b : List ByteArray) (ha : a.length ≤ 60) (hb : b.length ≤ 60) : ∀ (d i : Nat), i + d = a.length + 1 →
  Ev (fun k => lcs_table.l0 k a b (List.replicate i (List.replicate (b.length + 1) 0) ++ List.replicate d []) ((a.length + 1 : Nat) : Int) (i : Int)) (tableOf a b) := by
 intro d
 induction d with
 | zero =>
  intro i hi
  obtain rfl : i = a.length + 1 := by omega
  refine Ev.step (fun k => by rw [lcs_table.l0]) ?_
  refine Ev.neg (by omega) ?_
  rw [w64 (by omega)]
  have e : (List.replicate (a.length + 1) (List.replicate (b.length + 1) (0 : Int)) ++ List.replicate 0 []) = tab (a.length + 1) (b.length + 1) (fillF a b a.length 0) := by
   have z : tab (a.length + 1) (b.length + 1) (fillF a b a.length 0) = tab (a.length + 1) (b.length + 1) (fun _ _ => 0) := by
    apply tab_congr
    intro j hj l hl
    unfold fillF
    split
    ·rw [LL_end_left a b j l (by omega)]
     rfl
    ·rfl
   rw [z, List.replicate_zero, List.append_nil]
   show _ = (List.range (a.length + 1)).map (fun _ => (List.range (b.length + 1)).map (fun _ => (0 : Int)))
   rw [List.map_const', List.map_const', List.length_range, List.length_range]
  rw [e]
  exact table_l1 a b ha hb a.length (Nat.le_refl _)
 | succ d ih =>
  intro i hi
  refine Ev.step (fun k => by rw [lcs_table.l0]) ?_
  rw [w64 (x := (b.length : Int) + 1) (by omega), w64 (x := (i : Int) + 1) (by omega)]
  have hl : (List.replicate i (List.replicate (b.length + 1) (0 : Int)) ++ List.replicate (d + 1) []).length = a.length + 1 := by simp; omega
  rw [hl]
  refine Ev.pos (by omega) (Ev.pos (by omega) (Ev.pos (by omega) (Ev.pos (by omega) (Ev.pos (by omega) ?_))))
  have e1 : ((b.length : Int) + 1).toNat = b.length + 1 := by omega
  rw [e1, Int.toNat_natCast]
  have e : (List.replicate i (List.replicate (b.length + 1) (0 : Int)) ++ List.replicate (d + 1) []).set i (List.replicate (b.length + 1) 0) = List.replicate (i + 1) (List.replicate (b.length + 1) (0 : Int)) ++ List.replicate d [] := by
   generalize List.replicate (b.length + 1) (0 : Int) = z
   rw [List.set_append_right _ _ (by simp), List.length_replicate, Nat.sub_self, List.replicate_succ (n := d), List.set_cons_zero, List.replicate_succ' (n := i), List.append_assoc]
   rfl
  rw [e]
  have := ih (i + 1) (by omega)
  simpa using this
theorem table_ev (a b : List ByteArray) (ha : a.length ≤ 60) (hb : b.length ≤ 60) : Ev (fun k => lcs_table.f k a b) (tableOf a b) := by
 unfold lcs_table.f
 rw [w64 (x := (a.length : Int) + 1) (by omega)]
 have e1 : ((a.length : Int) + 1).toNat = a.length + 1 := by omega
 rw [e1]
 refine Ev.pos (by omega) (Ev.pos (by omega) (Ev.bs ?_))
 have := table_l0 a b ha hb (a.length + 1) 0 (by omega)
 rw [List.length_replicate]
 simpa using this
theorem tableOf_at (a b : List ByteArray) (i k : Nat) (h : i ≤ a.length) (h2 : k ≤ b.length) : rd (rd_Li64 (tableOf a b) (i : Int)) (k : Int) = (LL a b i k : Int) := tab_at _ _ _ i k (by omega) (by omega)
theorem tableOf_row (a b : List ByteArray) (i : Nat) (h : i ≤ a.length) : (rd_Li64 (tableOf a b) (i : Int)).length = b.length + 1 := tab_row_length _ _ _ i (by omega)
theorem tableOf_length (a b : List ByteArray) : (tableOf a b).length = a.length + 1 := tab_length _ _ _
theorem next_l1 (a b : List ByteArray) (ha : a.length ≤ 60) (hb : b.length ≤ 60) (i0 k0 : Nat) (hp : 0 < LL a b i0 k0) (p : Nat × Nat) (hf : First a b i0 k0 p) : ∀ (n i k : Nat), i0 ≤ i → i ≤ p.1 → k0 ≤ k → k ≤ b.length → (i = p.1 → k ≤ p.2) → (p.1 - i) * 1000 + (b.length - k) = n →
  Ev (fun m => lcs_next.l1 m a b (tableOf a b) (i : Int) (k0 : Int) (LL a b i0 k0 : Int) (k : Int)) ((p.1 : Int), (p.2 : Int)) := by
 obtain ⟨⟨g1, g2, g3, g4, g5, g6⟩, hmin⟩ := hf
 have hle := lcsLen_le_left (a.drop i0) (b.drop k0)
 rw [List.length_drop] at hle
 have hle' : LL a b i0 k0 ≤ 60 := by unfold LL; omega
 intro n
 induction n using Nat.strongRecOn with
 | _ n ih =>
  intro i k hi hip hk hkb hpk hn
  refine Ev.step (fun m => by rw [lcs_next.l1]) ?_
  by_cases hlt : k < b.length
  ·have hia : i < a.length := by omega
   have hnext : ∀ (hne : ¬ (i = p.1 ∧ k = p.2)), Ev (fun m => lcs_next.l1 m a b (tableOf a b) (i : Int) (k0 : Int) (LL a b i0 k0 : Int) (((k + 1 : Nat)) : Int)) ((p.1 : Int), (p.2 : Int)) := fun hne => ih ((p.1 - i) * 1000 + (b.length - (k + 1))) (by omega) i (k + 1) hi hip (by omega) (by omega) (by omega) rfl
   have ci : ((i : Int) + 1) = ((i + 1 : Nat) : Int) := by omega
   have ck : ((k : Int) + 1) = ((k + 1 : Nat) : Int) := by omega
   rw [w64 (x := (i : Int) + 1) (by omega), w64 (x := (k : Int) + 1) (by omega), w64 (x := (LL a b i0 k0 : Int) - 1) (by omega), rdOf_at _ a i hia, rdOf_at _ b k hlt, ci, ck, tableOf_length, tableOf_row a b (i + 1) (by omega), tableOf_at a b (i + 1) (k + 1) (by omega) (by omega)]
   refine Ev.pos (by omega) (Ev.pos (by omega) (Ev.pos (by omega) (Ev.pos (by omega) ?_)))
   by_cases he : a[i] = b[k]
   ·refine Ev.pos (toList_inj.2 he) (Ev.pos (by omega) (Ev.pos (by omega) (Ev.pos (by omega) (Ev.pos (by omega) ?_))))
    by_cases hw : LL a b (i + 1) (k + 1) + 1 = LL a b i0 k0
    ·have hg : Good a b i0 k0 i k := ⟨hi, hk, hia, hlt, he, hw⟩
     have := hmin (i, k) hg
     simp only [lexLt] at this
     have e1 : i = p.1 := by omega
     have e2 : k = p.2 := by omega
     refine Ev.pos (by omega) (Ev.rt ?_)
     rw [e1, e2]
    ·refine Ev.neg (by omega) (hnext ?_)
     rintro ⟨rfl, rfl⟩
     exact hw g6
   ·refine Ev.neg (fun e => he (toList_inj.1 e)) (hnext ?_)
    rintro ⟨rfl, rfl⟩
    exact he g5
  ·refine Ev.neg (by omega) ?_
   have hne : i ≠ p.1 := fun e => by have := hpk e; omega
   rw [w64 (by omega)]
   have ci : ((i : Int) + 1) = ((i + 1 : Nat) : Int) := by omega
   rw [ci]
   refine Ev.step (fun m => by rw [lcs_next.l0]) ?_
   exact ih ((p.1 - (i + 1)) * 1000 + (b.length - k0)) (by omega) (i + 1) k0 (by omega) (by omega) (Nat.le_refl _) (by omega) (fun e => g2) rfl
theorem next_ev (a b : List ByteArray) (ha : a.length ≤ 60) (hb : b.length ≤ 60) (i k : Nat) (hi : i ≤ a.length) (hk : k ≤ b.length) (p : Nat × Nat) (hf : First a b i k p) : Ev (fun m => lcs_next.f m a b (tableOf a b) (i : Int) (k : Int)) ((p.1 : Int), (p.2 : Int)) := by
 unfold lcs_next.f
 rw [tableOf_length, tableOf_row a b i hi, tableOf_at a b i k hi hk]
 refine Ev.pos (by omega) (Ev.pos (by omega) (Ev.pos (by omega) (Ev.pos (by omega) ?_)))
 refine Ev.step (fun m => by rw [lcs_next.l0]) ?_
 have h1 := hf.1.1
 have h2 := hf.1.2.1
 exact next_l1 a b ha hb i k hf.pos p hf _ i k (Nat.le_refl _) h1 (Nat.le_refl _) hk (fun _ => h2) rfl
def prOf (p : Nat × Nat) : S45 := ⟨(p.1 : Int), (p.2 : Int)⟩
theorem best_l0 (a b : List ByteArray) (ha : a.length ≤ 60) (hb : b.length ≤ 60) : ∀ (m : List (Nat × Nat)) (i k : Nat), Greedy a b i k m → i ≤ a.length → k ≤ b.length → ∀ acc : List S45, acc.length + m.length ≤ 100 →
  Ev (fun n => lcs_Best.l0 n a b (tableOf a b) acc (i : Int) (k : Int)) (acc ++ m.map prOf, (0 : Int)) := by
 intro m
 induction m with
 | nil =>
  intro i k hg hi hk acc _
  have h0 : LL a b i k = 0 := by
   cases hg with
   | nil _ _ h => exact h
  refine Ev.step (fun n => by rw [lcs_Best.l0]) ?_
  rw [tableOf_length, tableOf_row a b i hi, tableOf_at a b i k hi hk, h0]
  refine Ev.pos (by omega) (Ev.pos (by omega) (Ev.pos (by omega) (Ev.pos (by omega) (Ev.neg (by decide) (Ev.rt ?_)))))
  simp
 | cons p m ih =>
  intro i k hg hi hk acc hl
  cases hg with
  | cons _ _ _ _ hf hm =>
   obtain ⟨g1, g2, g3, g4, g5, g6⟩ := hf.1
   have hp := hf.pos
   refine Ev.step (fun n => by rw [lcs_Best.l0]) ?_
   rw [tableOf_length, tableOf_row a b i hi, tableOf_at a b i k hi hk]
   refine Ev.pos (by omega) (Ev.pos (by omega) (Ev.pos (by omega) (Ev.pos (by omega) (Ev.pos (by omega) (Ev.bd (next_ev a b ha hb i k hi hk p hf) (Ev.pos (by simp only [List.length_cons] at hl; omega) ?_))))))
   rw [w64 (x := (p.1 : Int) + 1) (by omega), w64 (x := (p.2 : Int) + 1) (by omega)]
   have := ih (p.1 + 1) (p.2 + 1) hm (by omega) (by omega) (acc ++ [prOf p]) (by simp only [List.length_append, List.length_cons, List.length_nil] at hl ⊢; omega)
   simpa [prOf] using this
noncomputable def bestOf (a b : List ByteArray) : List (Nat × Nat) := Classical.choose (Greedy.ex a b _ 0 0 rfl)
theorem bestOf_greedy (a b : List ByteArray) : Greedy a b 0 0 (bestOf a b) := (Classical.choose_spec (Greedy.ex a b _ 0 0 rfl)).1
theorem bestOf_length (a b : List ByteArray) : (bestOf a b).length = lcsLen a b := by
 have := (bestOf_greedy a b).length
 simpa [LL] using this
theorem best_ev (a b : List ByteArray) (ha : small a) (hb : small b) : Ev (fun n => lcs_Best.f n a b) (if bothErr a b = 0 then ((bestOf a b).map prOf, (0 : Int)) else (([] : List S45), bothErr a b)) := by
 unfold lcs_Best.f
 refine Ev.bc (lcheck_val a b ha hb) ?_
 by_cases h : bothErr a b = 0
 ·rw [if_pos h]
  obtain ⟨h1, h2⟩ := bothErr_zero.1 h
  obtain ⟨l1, _⟩ := linesErr_zero h1
  obtain ⟨l2, _⟩ := linesErr_zero h2
  refine Ev.pos h (Ev.bd (table_ev a b l1 l2) ?_)
  have hl := bestOf_length a b
  have hl2 := lcsLen_le_left a b
  have := best_l0 a b l1 l2 (bestOf a b) 0 0 (bestOf_greedy a b) (Nat.zero_le _) (Nat.zero_le _) [] (by simp only [List.length_nil]; omega)
  simpa using this
 ·exact Ev.neg h (Ev.rt (if_neg h).symm)
end Go.Proofs.Ytmgbbmjfjnhmiaa.Pr
end
section
namespace Go.Proofs.Ytmgbbmjfjnhmiaa.Pr
open Go.RowKit Go.Proofs.YtmgbbmjfjnhmiaaW.PrintWords Go.Proofs.YtmgbbmjfjnhmiaaW.PrintLast Go.Proofs.YtmgbbmjfjnhmiaaW.PrintMore
def gOf (a b : List ByteArray) : Nat → Nat → Nat → List (Nat × Nat)
 | 0, _, _ => []
 | n + 1, i, k => if h : i < a.length ∧ k < b.length then (if a[i] = b[k] then (i, k) :: gOf a b n (i + 1) (k + 1) else betterP (gOf a b n (i + 1) k) (gOf a b n i (k + 1))) else []
theorem gOf_greedy (a b : List ByteArray) : ∀ (n i k : Nat), (a.length - i) + (b.length - k) ≤ n → Greedy a b i k (gOf a b n i k) := by
 intro n
 induction n with
 | zero =>
  intro i k h
  exact .nil i k (LL_end_left a b i k (by omega))
 | succ n ih =>
  intro i k h
  unfold gOf
  by_cases c : i < a.length ∧ k < b.length
  ·rw [dif_pos c]
   by_cases e : a[i]'c.1 = b[k]'c.2
   ·rw [if_pos e]
    exact Greedy.step_eq c.1 c.2 e (ih (i + 1) (k + 1) (by omega))
   ·rw [if_neg e]
    exact Greedy.step_ne c.1 c.2 e (ih (i + 1) k (by omega)) (ih i (k + 1) (by omega))
  ·rw [dif_neg c]
   by_cases c1 : i < a.length
   ·exact .nil i k (LL_end_right a b i k (by omega))
   ·exact .nil i k (LL_end_left a b i k (by omega))
theorem bestOf_gOf (a b : List ByteArray) : bestOf a b = gOf a b (a.length + b.length) 0 0 := Greedy.uniq (bestOf_greedy a b) (gOf_greedy a b _ 0 0 (by omega))
end Go.Proofs.Ytmgbbmjfjnhmiaa.Pr
end
section
namespace Go.Proofs.Ytmgbbmjfjnhmiaa.Pr
open Go.RowKit Go.Proofs.YtmgbbmjfjnhmiaaW.PrintWords Go.Proofs.YtmgbbmjfjnhmiaaW.PrintLast Go.Proofs.YtmgbbmjfjnhmiaaW.PrintMore
attribute [local go_sem] max2_int min2_int max_two min_two max_three min_three max_four min_four   
mutual
def sidingref14_Before.l0 : Nat → List (S45) → List (S45) → Int → Option (Bool)
 | 0, _, _, _ => none
 | k + 1, x0, x1, x5 => if x5 < (x0.length : Int) then (sidingref14_Before.j1 k x0 x1 x5 (decide (x5 < (x1.length : Int)))) else (sidingref14_Before.j1 k x0 x1 x5 false)
def sidingref14_Before.j1 : Nat → List (S45) → List (S45) → Int → Bool → Option (Bool)
 | 0, _, _, _, _ => none
 | k + 1, x0, x1, x5, x15 => if x15 = true then (if 0 ≤ x5 then (if x5 < (x0.length : Int) then (if x5 < (x1.length : Int) then (if ((rd_T45 x0 x5).f0) = ((rd_T45 x1 x5).f0) then (if ((rd_T45 x0 x5).f1) = ((rd_T45 x1 x5).f1) then (sidingref14_Before.l0 k x0 x1 (wrap64 (x5 + 1))) else (some (decide (((rd_T45 x0 x5).f1) < ((rd_T45 x1 x5).f1))))) else (some (decide (((rd_T45 x0 x5).f0) < ((rd_T45 x1 x5).f0))))) else (none)) else (none)) else (none)) else (some false)
end
def sidingref14_Before.f (k : Nat) (l0 : List (S45)) (l1 : List (S45)) : Option (Bool) := sidingref14_Before.l0 k l0 l1 0
set_option maxHeartbeats 8000000 in
set_option maxRecDepth 100000 in
theorem sidingref14_Before.calls (k : Nat) (A0 : Option Addr) (c0 : Nat) (l0 : List (S45)) (A1 : Option Addr) (c1 : Nat) (l1 : List (S45)) (r : Bool) (w : World) (hr0 : Kd.C k45 w A0 l0.length l0) (hc0 : l0.length ≤ c0) (hr1 : Kd.C k45 w A1 l1.length l1) (hc1 : l1.length ≤ c1) (h : sidingref14_Before.f k l0 l1 = some r) :
  Calls Try.prog 46 #[.slice A0 l0.length c0, .slice A1 l1.length c1] w fun e w' => e = .returned (.bool r) ∧ Drawn0 w w' := by
 have HR0 := Aside0.mk hr0
 have HC0 := Aside0.mk hc0
 clear hr0 hc0
 have HR1 := Aside0.mk hr1
 have HC1 := Aside0.mk hc1
 clear hr1 hc1
 have H : (sidingref14_Before.l0 k l0 l1 0) = some r := h
 clear h
 have H' := Aside0.mk H
 clear H
 go_enter Try.func46, Try.ntmps46
 go_wp2
 repeat (go_quiet (fail); try go_wp2)
 go_loopg [5] k (fun kq v5 w' => ∃ (x5_1 : Int), v5 = .int .i64 x5_1 ∧ Aside0 (sidingref14_Before.l0 kq l0 l1 x5_1 = some r) ∧ Aside0 (kq ≤ k) ∧ Drawn0 w w')
 case atStart => exact ⟨(0), (by first | rfl | (simp; done) | (simp [*]; done)), H', ⟨Nat.le_refl _⟩, by repeat (first | exact Drawn0.refl _ | apply Drawn0.step)⟩
 case round =>
  clear H'
  try clear c1
  try clear p2
  obtain ⟨x5_1, rfl, HA, HK1, ⟨m1, rfl⟩⟩ := hrel
  cases gk with
  | zero => exact absurd HA.out (by simp [sidingref14_Before.l0])
  | succ k1 =>
   have H := HA.out
   clear HA
   simp only [sidingref14_Before.l0] at H
   have HC3 := Aside0.mk H
   clear H
   go_upto_region 2 with (fail)
   repeat (go_quiet (fail); go_upto_region 2 with (fail))
   go_cut [15] (fun v15 wc => ∃ (kq : Nat) (x15_2 : Bool), v15 = .bool x15_2 ∧ Aside0 (sidingref14_Before.j1 kq l0 l1 x5_1 x15_2 = some r) ∧ Aside0 (kq ≤ k1) ∧ Drawn0 w wc)
   case first =>
    have H := HC3.out
    clear HC3
    by_cases c4 : x5_1 < (l0.length : Int)
    ·rw [if_pos c4] at H
     have c4b0 : decide (x5_1 < (l0.length : Int)) = true := decide_eq_true c4
     clear c4
     (first | rw [c4b0] | (simp only [i64_w, i32_w]; rw [c4b0]) | skip)
     have H' := Aside0.mk H
     clear H
     go_wp2
     repeat (go_quiet (fail); try go_wp2)
     go_meet
     case rel => exact ⟨_, (decide (x5_1 < (l1.length : Int))), (by first | rfl | (simp; done) | (simp [*]; done)), H', ⟨by have := HK1.out; first | omega | exact Nat.le_refl _⟩, by repeat (first | exact Drawn0.refl _ | apply Drawn0.step)⟩
    ·rw [if_neg c4] at H
     have c4b0 : decide (x5_1 < (l0.length : Int)) = false := decide_eq_false c4
     clear c4
     (first | rw [c4b0] | (simp only [i64_w, i32_w]; rw [c4b0]) | skip)
     have H' := Aside0.mk H
     clear H
     go_wp2
     repeat (go_quiet (fail); try go_wp2)
     go_meet
     case rel => exact ⟨_, (false), (by first | rfl | (simp; done) | (simp [*]; done)), H', ⟨by have := HK1.out; first | omega | exact Nat.le_refl _⟩, by repeat (first | exact Drawn0.refl _ | apply Drawn0.step)⟩
   case rest =>
    clear HC3
    try clear c1
    try clear p2
    try clear c4
    try clear c4b0
    try clear p2
    obtain ⟨kq, x15_2, rfl, HA, HJ2, ⟨mc2, rfl⟩⟩ := hcut
    cases kq with
    | zero => exact absurd HA.out (by simp [sidingref14_Before.j1])
    | succ kj2 =>
     have H := HA.out
     clear HA
     simp only [sidingref14_Before.j1] at H
     by_cases c5 : x15_2 = true
     ·subst c5
      have H1 : (if 0 ≤ x5_1 then (if x5_1 < (l0.length : Int) then (if x5_1 < (l1.length : Int) then (if ((rd_T45 l0 x5_1).f0) = ((rd_T45 l1 x5_1).f0) then (if ((rd_T45 l0 x5_1).f1) = ((rd_T45 l1 x5_1).f1) then (sidingref14_Before.l0 kj2 l0 l1 (wrap64 (x5_1 + 1))) else (some (decide (((rd_T45 l0 x5_1).f1) < ((rd_T45 l1 x5_1).f1))))) else (some (decide (((rd_T45 l0 x5_1).f0) < ((rd_T45 l1 x5_1).f0))))) else (none)) else (none)) else (none)) = some r := by rw [if_pos rfl] at H; exact H
      clear H
      have H := H1
      clear H1
      by_cases c6 : 0 ≤ x5_1
      ·rw [if_pos c6] at H
       have c6b0 : decide (0 ≤ x5_1) = true := decide_eq_true c6
       clear c6
       by_cases c7 : x5_1 < (l0.length : Int)
       ·rw [if_pos c7] at H
        have c7b0 : decide (x5_1 < (l0.length : Int)) = true := decide_eq_true c7
        clear c7
        by_cases c8 : x5_1 < (l1.length : Int)
        ·rw [if_pos c8] at H
         have c8b0 : decide (x5_1 < (l1.length : Int)) = true := decide_eq_true c8
         clear c8
         by_cases c9 : ((rd_T45 l0 x5_1).f0) = ((rd_T45 l1 x5_1).f0)
         ·rw [if_pos c9] at H
          have c9b0 : (((rd_T45 l0 x5_1).f0) == ((rd_T45 l1 x5_1).f0)) = true := beq_iff_eq.mpr c9
          have c9b1 : (((rd_T45 l0 x5_1).f0) != ((rd_T45 l1 x5_1).f0)) = false := bne_eq_false_iff_eq.mpr c9
          clear c9
          by_cases c10 : ((rd_T45 l0 x5_1).f1) = ((rd_T45 l1 x5_1).f1)
          ·rw [if_pos c10] at H
           have c10b0 : (((rd_T45 l0 x5_1).f1) == ((rd_T45 l1 x5_1).f1)) = true := beq_iff_eq.mpr c10
           have c10b1 : (((rd_T45 l0 x5_1).f1) != ((rd_T45 l1 x5_1).f1)) = false := bne_eq_false_iff_eq.mpr c10
           clear c10
           have H' := Aside0.mk H
           clear H
           have p328 : 0 ≤ (x5_1 : Int) := of_decide_eq_true (by first | (with_reducible assumption) | assumption)
           have q328 : x5_1 < (l0.length : Int) := of_decide_eq_true (by first | (with_reducible assumption) | assumption)
           obtain ⟨ad328, e328, hx328_0, hx328_1⟩ := at_T45 HR0.out x5_1 p328 q328
           cases e328
           replace p328 := eq_true p328
           replace q328 := eq_true q328
           have p329 : 0 ≤ (x5_1 : Int) := of_decide_eq_true (by first | (with_reducible assumption) | assumption)
           have q329 : x5_1 < (l1.length : Int) := of_decide_eq_true (by first | (with_reducible assumption) | assumption)
           obtain ⟨ad329, e329, hx329_0, hx329_1⟩ := at_T45 HR1.out x5_1 p329 q329
           cases e329
           replace p329 := eq_true p329
           replace q329 := eq_true q329
           have p330 : 0 ≤ (x5_1 : Int) := of_decide_eq_true (by first | (with_reducible assumption) | assumption)
           have q330 : x5_1 < (l0.length : Int) := of_decide_eq_true (by first | (with_reducible assumption) | assumption)
           obtain ⟨ad330, e330, hx330_0, hx330_1⟩ := at_T45 HR0.out x5_1 p330 q330
           obtain rfl : ad328 = ad330 := (by injection e330)
           replace p330 := eq_true p330
           replace q330 := eq_true q330
           have p331 : 0 ≤ (x5_1 : Int) := of_decide_eq_true (by first | (with_reducible assumption) | assumption)
           have q331 : x5_1 < (l1.length : Int) := of_decide_eq_true (by first | (with_reducible assumption) | assumption)
           obtain ⟨ad331, e331, hx331_0, hx331_1⟩ := at_T45 HR1.out x5_1 p331 q331
           obtain rfl : ad329 = ad331 := (by injection e331)
           replace p331 := eq_true p331
           replace q331 := eq_true q331
           go_wp2
           repeat (go_quiet (fail); try go_wp2)
           go_roundg kj2
           case measure => have := HK1.out; have := HJ2.out; omega
           case rel => exact ⟨(wrap64 (x5_1 + 1)), (by first | rfl | (simp; done) | (simp [*]; done)), H', ⟨by have := HK1.out; have := HJ2.out; omega⟩, by repeat (first | exact Drawn0.refl _ | apply Drawn0.step)⟩
          ·rw [if_neg c10] at H
           have c10b0 : (((rd_T45 l0 x5_1).f1) == ((rd_T45 l1 x5_1).f1)) = false := beq_eq_false_iff_ne.mpr c10
           have c10b1 : (((rd_T45 l0 x5_1).f1) != ((rd_T45 l1 x5_1).f1)) = true := bne_iff_ne.mpr c10
           obtain rfl := Option.some.inj H
           have p328 : 0 ≤ (x5_1 : Int) := of_decide_eq_true (by first | (with_reducible assumption) | assumption)
           have q328 : x5_1 < (l0.length : Int) := of_decide_eq_true (by first | (with_reducible assumption) | assumption)
           obtain ⟨ad328, e328, hx328_0, hx328_1⟩ := at_T45 HR0.out x5_1 p328 q328
           cases e328
           replace p328 := eq_true p328
           replace q328 := eq_true q328
           have p329 : 0 ≤ (x5_1 : Int) := of_decide_eq_true (by first | (with_reducible assumption) | assumption)
           have q329 : x5_1 < (l1.length : Int) := of_decide_eq_true (by first | (with_reducible assumption) | assumption)
           obtain ⟨ad329, e329, hx329_0, hx329_1⟩ := at_T45 HR1.out x5_1 p329 q329
           cases e329
           replace p329 := eq_true p329
           replace q329 := eq_true q329
           have p330 : 0 ≤ (x5_1 : Int) := of_decide_eq_true (by first | (with_reducible assumption) | assumption)
           have q330 : x5_1 < (l0.length : Int) := of_decide_eq_true (by first | (with_reducible assumption) | assumption)
           obtain ⟨ad330, e330, hx330_0, hx330_1⟩ := at_T45 HR0.out x5_1 p330 q330
           obtain rfl : ad328 = ad330 := (by injection e330)
           replace p330 := eq_true p330
           replace q330 := eq_true q330
           have p331 : 0 ≤ (x5_1 : Int) := of_decide_eq_true (by first | (with_reducible assumption) | assumption)
           have q331 : x5_1 < (l1.length : Int) := of_decide_eq_true (by first | (with_reducible assumption) | assumption)
           obtain ⟨ad331, e331, hx331_0, hx331_1⟩ := at_T45 HR1.out x5_1 p331 q331
           obtain rfl : ad329 = ad331 := (by injection e331)
           replace p331 := eq_true p331
           replace q331 := eq_true q331
           have p332 : 0 ≤ (x5_1 : Int) := of_decide_eq_true (by first | (with_reducible assumption) | assumption)
           have q332 : x5_1 < (l0.length : Int) := of_decide_eq_true (by first | (with_reducible assumption) | assumption)
           obtain ⟨ad332, e332, hx332_0, hx332_1⟩ := at_T45 HR0.out x5_1 p332 q332
           obtain rfl : ad328 = ad332 := (by injection e332)
           replace p332 := eq_true p332
           replace q332 := eq_true q332
           have p333 : 0 ≤ (x5_1 : Int) := of_decide_eq_true (by first | (with_reducible assumption) | assumption)
           have q333 : x5_1 < (l1.length : Int) := of_decide_eq_true (by first | (with_reducible assumption) | assumption)
           obtain ⟨ad333, e333, hx333_0, hx333_1⟩ := at_T45 HR1.out x5_1 p333 q333
           obtain rfl : ad329 = ad333 := (by injection e333)
           replace p333 := eq_true p333
           replace q333 := eq_true q333
           go_wp2
           repeat (go_quiet (fail); try go_wp2)
           go_ret
           exact ⟨by first | rfl | (simp; done) | (simp [*]; done), by repeat (first | exact Drawn0.refl _ | apply Drawn0.step)⟩
         ·rw [if_neg c9] at H
          have c9b0 : (((rd_T45 l0 x5_1).f0) == ((rd_T45 l1 x5_1).f0)) = false := beq_eq_false_iff_ne.mpr c9
          have c9b1 : (((rd_T45 l0 x5_1).f0) != ((rd_T45 l1 x5_1).f0)) = true := bne_iff_ne.mpr c9
          obtain rfl := Option.some.inj H
          have p328 : 0 ≤ (x5_1 : Int) := of_decide_eq_true (by first | (with_reducible assumption) | assumption)
          have q328 : x5_1 < (l0.length : Int) := of_decide_eq_true (by first | (with_reducible assumption) | assumption)
          obtain ⟨ad328, e328, hx328_0, hx328_1⟩ := at_T45 HR0.out x5_1 p328 q328
          cases e328
          replace p328 := eq_true p328
          replace q328 := eq_true q328
          have p329 : 0 ≤ (x5_1 : Int) := of_decide_eq_true (by first | (with_reducible assumption) | assumption)
          have q329 : x5_1 < (l1.length : Int) := of_decide_eq_true (by first | (with_reducible assumption) | assumption)
          obtain ⟨ad329, e329, hx329_0, hx329_1⟩ := at_T45 HR1.out x5_1 p329 q329
          cases e329
          replace p329 := eq_true p329
          replace q329 := eq_true q329
          have p334 : 0 ≤ (x5_1 : Int) := of_decide_eq_true (by first | (with_reducible assumption) | assumption)
          have q334 : x5_1 < (l0.length : Int) := of_decide_eq_true (by first | (with_reducible assumption) | assumption)
          obtain ⟨ad334, e334, hx334_0, hx334_1⟩ := at_T45 HR0.out x5_1 p334 q334
          obtain rfl : ad328 = ad334 := (by injection e334)
          replace p334 := eq_true p334
          replace q334 := eq_true q334
          have p335 : 0 ≤ (x5_1 : Int) := of_decide_eq_true (by first | (with_reducible assumption) | assumption)
          have q335 : x5_1 < (l1.length : Int) := of_decide_eq_true (by first | (with_reducible assumption) | assumption)
          obtain ⟨ad335, e335, hx335_0, hx335_1⟩ := at_T45 HR1.out x5_1 p335 q335
          obtain rfl : ad329 = ad335 := (by injection e335)
          replace p335 := eq_true p335
          replace q335 := eq_true q335
          go_wp2
          repeat (go_quiet (fail); try go_wp2)
          go_ret
          exact ⟨by first | rfl | (simp; done) | (simp [*]; done), by repeat (first | exact Drawn0.refl _ | apply Drawn0.step)⟩
        ·rw [if_neg c8] at H
         exact absurd H (by simp)
       ·rw [if_neg c7] at H
        exact absurd H (by simp)
      ·rw [if_neg c6] at H
       exact absurd H (by simp)
     ·replace c5 := Bool.eq_false_iff.mpr c5
      subst c5
      have H1 : (some false) = some r := by rw [if_neg (show ¬ (false = true) by decide)] at H; exact H
      clear H
      have H := H1
      clear H1
      obtain rfl := Option.some.inj H
      go_wp2
      repeat (go_quiet (fail); try go_wp2)
      go_ret
      exact ⟨by first | rfl | (simp; done) | (simp [*]; done), by repeat (first | exact Drawn0.refl _ | apply Drawn0.step)⟩
end Go.Proofs.Ytmgbbmjfjnhmiaa.Pr
end
section
namespace Go.Proofs.Ytmgbbmjfjnhmiaa.Pr
open Go.RowKit Go.Proofs.YtmgbbmjfjnhmiaaW.PrintWords Go.Proofs.YtmgbbmjfjnhmiaaW.PrintLast Go.Proofs.YtmgbbmjfjnhmiaaW.PrintMore
theorem rd_pairs (m : List S45) (i : Nat) (h : i < m.length) : rd_T45 m (i : Int) = m[i] := by simp [rd_T45, h]
theorem rd_prOf (m : List (Nat × Nat)) (i : Nat) (h : i < m.length) : rd_T45 (m.map prOf) (i : Int) = prOf m[i] := by
 rw [rd_pairs (m.map prOf) i (by simpa using h)]
 simp
theorem before_loop (m n : List (Nat × Nat)) (hm : m.length ≤ 1000000) (hn : n.length ≤ 1000000) : ∀ (d i : Nat), i + d = m.length + 1 → (i ≤ m.length) → Ev (fun k => sidingref14_Before.l0 k (m.map prOf) (n.map prOf) (i : Int)) (before (m.drop i) (n.drop i)) := by
 have hml : (m.map prOf).length = m.length := by simp
 have hnl : (n.map prOf).length = n.length := by simp
 intro d
 induction d with
 | zero => intro i h1 h2; omega
 | succ d ih =>
  intro i hi hle
  refine Ev.step (fun k => by rw [sidingref14_Before.l0]) ?_
  rw [hml, hnl]
  by_cases h1 : i < m.length
  ·by_cases h2 : i < n.length
   ·rw [drop_at m i h1, drop_at n i h2]
    refine Ev.pos (by omega) ?_
    rw [decide_eq_true (show (i : Int) < (n.length : Int) by omega)]
    refine Ev.step (fun k => by rw [sidingref14_Before.j1]) ?_
    rw [hml, hnl]
    refine Ev.pos rfl (Ev.pos (by omega) (Ev.pos (by omega) (Ev.pos (by omega) ?_)))
    rw [rd_prOf m i h1, rd_prOf n i h2, w64 (x := (i : Int) + 1) (by omega)]
    show Ev _ (if m[i].1 ≠ n[i].1 then decide (m[i].1 < n[i].1) else if m[i].2 ≠ n[i].2 then decide (m[i].2 < n[i].2) else before (m.drop (i + 1)) (n.drop (i + 1)))
    by_cases h3 : m[i].1 = n[i].1
    ·rw [if_neg (by omega)]
     refine Ev.pos (show ((m[i].1 : Nat) : Int) = ((n[i].1 : Nat) : Int) by omega) ?_
     by_cases h4 : m[i].2 = n[i].2
     ·rw [if_neg (by omega)]
      refine Ev.pos (show ((m[i].2 : Nat) : Int) = ((n[i].2 : Nat) : Int) by omega) ?_
      exact ih (i + 1) (by omega) (by omega)
     ·rw [if_pos h4]
      refine Ev.neg (show ¬ ((m[i].2 : Nat) : Int) = ((n[i].2 : Nat) : Int) by omega) (Ev.rt ?_)
      show decide (((m[i].2 : Nat) : Int) < ((n[i].2 : Nat) : Int)) = _
      simp
    ·rw [if_pos h3]
     refine Ev.neg (show ¬ ((m[i].1 : Nat) : Int) = ((n[i].1 : Nat) : Int) by omega) (Ev.rt ?_)
     show decide (((m[i].1 : Nat) : Int) < ((n[i].1 : Nat) : Int)) = _
     simp
   ·have e : before (m.drop i) (n.drop i) = false := by
     rw [List.drop_eq_nil_of_le (show n.length ≤ i by omega), drop_at m i h1]
     rfl
    rw [e]
    refine Ev.pos (by omega) ?_
    rw [decide_eq_false (show ¬ (i : Int) < (n.length : Int) by omega)]
    refine Ev.step (fun k => by rw [sidingref14_Before.j1]) ?_
    exact Ev.neg (by decide) (Ev.now _)
  ·have e : before (m.drop i) (n.drop i) = false := by
    rw [List.drop_eq_nil_of_le (show m.length ≤ i by omega)]
    rfl
   rw [e]
   refine Ev.neg (by omega) ?_
   refine Ev.step (fun k => by rw [sidingref14_Before.j1]) ?_
   exact Ev.neg (by decide) (Ev.now _)
theorem before_ev (m n : List (Nat × Nat)) (hm : m.length ≤ 1000000) (hn : n.length ≤ 1000000) : Ev (fun k => sidingref14_Before.f k (m.map prOf) (n.map prOf)) (before m n) := by
 unfold sidingref14_Before.f
 exact before_loop m n hm hn (m.length + 1) 0 (by omega) (by omega)
end Go.Proofs.Ytmgbbmjfjnhmiaa.Pr
end
section
namespace Go.Proofs.Ytmgbbmjfjnhmiaa.Pr
open Go.RowKit Go.Proofs.YtmgbbmjfjnhmiaaW.PrintWords Go.Proofs.YtmgbbmjfjnhmiaaW.PrintLast Go.Proofs.YtmgbbmjfjnhmiaaW.PrintMore
attribute [local go_sem] max2_int min2_int max_two min_two max_three min_three max_four min_four   
def sidingref14_better.f (k : Nat) (l0 : List (S45)) (l1 : List (S45)) : Option ((List (S45))) := if (l1.length : Int) > (l0.length : Int) then (some l1) else (if (l1.length : Int) = (l0.length : Int) then ((sidingref14_Before.f k l1 l0).bind fun t336 => (if t336 = true then (some l1) else (some l0))) else (some l0))
set_option maxHeartbeats 8000000 in
set_option maxRecDepth 100000 in
theorem sidingref14_better.calls (k : Nat) (P0_ : Nat → Prop) (A0 : Option Addr) (c0 : Nat) (l0 : List (S45)) (P1_ : Nat → Prop) (A1 : Option Addr) (c1 : Nat) (l1 : List (S45)) (r : List (S45)) (w : World) (hs0 : Kd.V k45 45 w w.heap.size (fun k_ => P0_ k_) (.slice A0 l0.length c0) l0) (hs1 : Kd.V k45 45 w w.heap.size (fun k_ => P1_ k_) (.slice A1 l1.length c1) l1) (h : sidingref14_better.f k l0 l1 = some r) :
  Calls Try.prog 37 #[.slice A0 l0.length c0, .slice A1 l1.length c1] w fun e w' => ∃ v0_ : Value, e = .returned (v0_) ∧ Kd.V k45 45 w' w.heap.size (fun k_ => ((P0_ k_ ∨ P1_ k_) ∨ w.heap.size ≤ k_)) v0_ r ∧ Below w.heap.size w w' := by
 have HO0 := Aside0.mk (show Kd.V k45 45 w w.heap.size (fun k_ => ((P0_ k_ ∨ P1_ k_) ∨ w.heap.size ≤ k_)) (.slice A0 l0.length c0) l0 from Kd.V_mono hs0 (fun k_ hk => .inl (.inl hk)))
 have HO1 := Aside0.mk (show Kd.V k45 45 w w.heap.size (fun k_ => ((P0_ k_ ∨ P1_ k_) ∨ w.heap.size ≤ k_)) (.slice A1 l1.length c1) l1 from Kd.V_mono hs1 (fun k_ hk => .inl (.inr hk)))
 have HB := Aside0.mk (Below.refl w.heap.size w)
 have H : (if (l1.length : Int) > (l0.length : Int) then (some l1) else (if (l1.length : Int) = (l0.length : Int) then ((sidingref14_Before.f k l1 l0).bind fun t336 => (if t336 = true then (some l1) else (some l0))) else (some l0))) = some r := h
 clear h
 by_cases c3 : (l1.length : Int) > (l0.length : Int)
 ·rw [if_pos c3] at H
  have c3b0 : decide ((l0.length : Int) < (l1.length : Int)) = true := decide_eq_true c3
  have c3b1 : decide (l0.length < l1.length) = true := decide_eq_true (Int.ofNat_lt.mp c3)
  clear c3
  obtain rfl := Option.some.inj H
  go_enter Try.func37, Try.ntmps37
  go_wp2
  go_ret
  exact ⟨_, by first | rfl | (simp [errW_none, errW_some] <;> rfl) | (simp [*, errW_none, errW_some] <;> rfl), by (with_reducible repeat (first | apply Kd.V_alloc | apply Kd.V_drewN | apply Kd.V_drew)); exact HO1.out, by repeat (first | (with_reducible first | exact HB.out | apply below_alloc | apply pw_below_drewN | apply below_drew1) | exact HB.out)⟩
 ·rw [if_neg c3] at H
  have c3b0 : decide ((l0.length : Int) < (l1.length : Int)) = false := decide_eq_false c3
  have c3b1 : decide (l0.length < l1.length) = false := decide_eq_false (fun h => c3 (Int.ofNat_lt.mpr h))
  clear c3
  by_cases c4 : (l1.length : Int) = (l0.length : Int)
  ·rw [if_pos c4] at H
   have c4b0 : ((l1.length : Int) == (l0.length : Int)) = true := beq_iff_eq.mpr c4
   have c4b1 : ((l1.length : Int) != (l0.length : Int)) = false := bne_eq_false_iff_eq.mpr c4
   have c4b2 : (l1.length == l0.length) = true := by first | simpa using c4 | (simp at c4 ⊢; omega)
   clear c4
   replace H := Option.bind_eq_some_iff.mp H
   obtain ⟨t336, A50, H⟩ := H
   replace H : (if t336 = true then (some l1) else (some l0)) = some r := H
   have A5 := Aside0.mk A50
   clear A50
   by_cases c6 : t336 = true
   ·subst c6
    have H1 : (some l1) = some r := by rw [if_pos rfl] at H; exact H
    clear H
    have H := H1
    clear H1
    obtain rfl := Option.some.inj H
    go_enter Try.func37, Try.ntmps37
    go_wp2_with (first | (go_at_call 46; (with_reducible refine (sidingref14_Before.calls k _ _ l1 _ _ l0 true _ ?side1 ?side2 ?side3 ?side4 A5.out).mono ?_); (case side1 => repeat (first | exact (Kd.V_reads' HO1.out).2.2 | (with_reducible refine Kd.C_alloc ?_ _) | (with_reducible refine Kd.C_drewN ?_ _) | (with_reducible refine Kd.C_drew ?_))); (case side2 => exact (Kd.V_reads' HO1.out).2.1); (case side3 => repeat (first | exact (Kd.V_reads' HO0.out).2.2 | (with_reducible refine Kd.C_alloc ?_ _) | (with_reducible refine Kd.C_drewN ?_ _) | (with_reducible refine Kd.C_drew ?_))); (case side4 => exact (Kd.V_reads' HO0.out).2.1); rintro e w' ⟨rfl, ⟨nd, rfl⟩⟩))
    go_ret
    exact ⟨_, by first | rfl | (simp [errW_none, errW_some] <;> rfl) | (simp [*, errW_none, errW_some] <;> rfl), by (with_reducible repeat (first | apply Kd.V_alloc | apply Kd.V_drewN | apply Kd.V_drew)); exact HO1.out, by repeat (first | (with_reducible first | exact HB.out | apply below_alloc | apply pw_below_drewN | apply below_drew1) | exact HB.out)⟩
   ·replace c6 := Bool.eq_false_iff.mpr c6
    subst c6
    have H1 : (some l0) = some r := by rw [if_neg (show ¬ (false = true) by decide)] at H; exact H
    clear H
    have H := H1
    clear H1
    obtain rfl := Option.some.inj H
    go_enter Try.func37, Try.ntmps37
    go_wp2_with (first | (go_at_call 46; (with_reducible refine (sidingref14_Before.calls k _ _ l1 _ _ l0 false _ ?side1 ?side2 ?side3 ?side4 A5.out).mono ?_); (case side1 => repeat (first | exact (Kd.V_reads' HO1.out).2.2 | (with_reducible refine Kd.C_alloc ?_ _) | (with_reducible refine Kd.C_drewN ?_ _) | (with_reducible refine Kd.C_drew ?_))); (case side2 => exact (Kd.V_reads' HO1.out).2.1); (case side3 => repeat (first | exact (Kd.V_reads' HO0.out).2.2 | (with_reducible refine Kd.C_alloc ?_ _) | (with_reducible refine Kd.C_drewN ?_ _) | (with_reducible refine Kd.C_drew ?_))); (case side4 => exact (Kd.V_reads' HO0.out).2.1); rintro e w' ⟨rfl, ⟨nd, rfl⟩⟩))
    go_ret
    exact ⟨_, by first | rfl | (simp [errW_none, errW_some] <;> rfl) | (simp [*, errW_none, errW_some] <;> rfl), by (with_reducible repeat (first | apply Kd.V_alloc | apply Kd.V_drewN | apply Kd.V_drew)); exact HO0.out, by repeat (first | (with_reducible first | exact HB.out | apply below_alloc | apply pw_below_drewN | apply below_drew1) | exact HB.out)⟩
  ·rw [if_neg c4] at H
   have c4b0 : ((l1.length : Int) == (l0.length : Int)) = false := beq_eq_false_iff_ne.mpr c4
   have c4b1 : ((l1.length : Int) != (l0.length : Int)) = true := bne_iff_ne.mpr c4
   have c4b2 : (l1.length == l0.length) = false := by first | simpa using c4 | (simp at c4 ⊢; omega)
   obtain rfl := Option.some.inj H
   go_enter Try.func37, Try.ntmps37
   go_wp2
   go_ret
   exact ⟨_, by first | rfl | (simp [errW_none, errW_some] <;> rfl) | (simp [*, errW_none, errW_some] <;> rfl), by (with_reducible repeat (first | apply Kd.V_alloc | apply Kd.V_drewN | apply Kd.V_drew)); exact HO0.out, by repeat (first | (with_reducible first | exact HB.out | apply below_alloc | apply pw_below_drewN | apply below_drew1) | exact HB.out)⟩
end Go.Proofs.Ytmgbbmjfjnhmiaa.Pr
end
