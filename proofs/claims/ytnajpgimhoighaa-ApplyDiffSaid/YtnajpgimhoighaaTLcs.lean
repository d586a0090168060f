/- Longest common sublists: their lengths, the first best matching, and what is true of every matching. Plain lists; no program. -/
import Derived.Test.YtnajpgimhoighaaPk
namespace Go.Proofs.Ytnajpgimhoighaa.Pr

section
variable {α : Type} [DecidableEq α]

/-- How many elements two lists have in common at most. -/
def lcsLen : List α → List α → Nat
 | [], _ => 0
 | _ :: _, [] => 0
 | x :: a, y :: b => if x = y then lcsLen a b + 1 else max (lcsLen a (y :: b)) (lcsLen (x :: a) b)
termination_by a b => a.length + b.length

theorem lcsLen_nil_left (b : List α) : lcsLen ([] : List α) b = 0 := by rw [lcsLen]
theorem lcsLen_nil_right (a : List α) : lcsLen a ([] : List α) = 0 := by cases a <;> rw [lcsLen]
theorem lcsLen_cons (x y : α) (a b : List α) : lcsLen (x :: a) (y :: b) = if x = y then lcsLen a b + 1 else max (lcsLen a (y :: b)) (lcsLen (x :: a) b) := by rw [lcsLen]

/-- No common sublist is longer. -/
theorem sub_le : ∀ (n : Nat) (a b c : List α), a.length + b.length = n → c.Sublist a → c.Sublist b → c.length ≤ lcsLen a b := by
 intro n
 induction n using Nat.strongRecOn with
 | _ n ih =>
  intro a b c hn ha hb
  match a, b with
  | [], b => simp [List.sublist_nil.1 ha]
  | x :: a, [] => simp [List.sublist_nil.1 hb]
  | x :: a, y :: b =>
   simp only [List.length_cons] at hn
   rw [lcsLen_cons]
   cases ha with
   | cons _ ha =>
    have h1 := ih (a.length + (y :: b).length) (by simp only [List.length_cons]; omega) a (y :: b) c rfl ha hb
    split
    ·rename_i hxy
     cases hb with
     | cons _ hb =>
      have := ih (a.length + b.length) (by omega) a b c rfl ha hb
      omega
     | cons_cons _ hb =>
      rename_i c'
      have := ih (a.length + b.length) (by omega) a b c' rfl ((List.sublist_cons_self _ _).trans ha) hb
      simp only [List.length_cons]
      omega
    ·omega
   | cons_cons _ ha =>
    rename_i c'
    cases hb with
    | cons _ hb =>
     have h1 := ih ((x :: a).length + b.length) (by simp only [List.length_cons]; omega) (x :: a) b (x :: c') rfl (ha.cons_cons x) hb
     split
     ·rename_i hxy
      have := ih (a.length + b.length) (by omega) a b c' rfl ha ((List.sublist_cons_self _ _).trans hb)
      simp only [List.length_cons]
      omega
     ·omega
    | cons_cons _ hb =>
     rw [if_pos rfl]
     have := ih (a.length + b.length) (by omega) a b c' rfl ha hb
     simp only [List.length_cons]
     omega
/-- There is one as long. -/
theorem sub_ex : ∀ (n : Nat) (a b : List α), a.length + b.length = n → ∃ c : List α, c.Sublist a ∧ c.Sublist b ∧ c.length = lcsLen a b := by
 intro n
 induction n using Nat.strongRecOn with
 | _ n ih =>
  intro a b hn
  match a, b with
  | [], b => exact ⟨[], List.nil_sublist _, List.nil_sublist _, by rw [lcsLen_nil_left]; rfl⟩
  | x :: a, [] => exact ⟨[], List.nil_sublist _, List.nil_sublist _, by rw [lcsLen_nil_right]; rfl⟩
  | x :: a, y :: b =>
   simp only [List.length_cons] at hn
   rw [lcsLen_cons]
   by_cases hxy : x = y
   ·subst hxy
    rw [if_pos rfl]
    obtain ⟨c, h1, h2, h3⟩ := ih (a.length + b.length) (by omega) a b rfl
    exact ⟨x :: c, h1.cons_cons x, h2.cons_cons x, by simp [h3]⟩
   ·rw [if_neg hxy]
    obtain ⟨c, h1, h2, h3⟩ := ih (a.length + (y :: b).length) (by simp only [List.length_cons]; omega) a (y :: b) rfl
    obtain ⟨d, k1, k2, k3⟩ := ih ((x :: a).length + b.length) (by simp only [List.length_cons]; omega) (x :: a) b rfl
    by_cases hm : lcsLen (x :: a) b ≤ lcsLen a (y :: b)
    ·exact ⟨c, h1.cons x, h2, by rw [h3]; omega⟩
    ·exact ⟨d, k1, k2.cons y, by rw [k3]; omega⟩
theorem lcsLen_le_iff {a b : List α} {n : Nat} : lcsLen a b ≤ n ↔ ∀ c : List α, c.Sublist a → c.Sublist b → c.length ≤ n := by
 constructor
 ·intro h c h1 h2
  exact Nat.le_trans (sub_le _ a b c rfl h1 h2) h
 ·intro h
  obtain ⟨c, h1, h2, h3⟩ := sub_ex _ a b rfl
  rw [← h3]
  exact h c h1 h2
theorem lcsLen_comm (a b : List α) : lcsLen a b = lcsLen b a := by
 apply Nat.le_antisymm
 ·exact lcsLen_le_iff.2 fun c h1 h2 => sub_le _ b a c rfl h2 h1
 ·exact lcsLen_le_iff.2 fun c h1 h2 => sub_le _ a b c rfl h2 h1
theorem lcsLen_reverse (a b : List α) : lcsLen a.reverse b.reverse = lcsLen a b := by
 have key : ∀ a b : List α, lcsLen a b ≤ lcsLen a.reverse b.reverse := fun a b => lcsLen_le_iff.2 fun c h1 h2 => by
  have := sub_le _ a.reverse b.reverse c.reverse rfl (List.reverse_sublist.2 h1) (List.reverse_sublist.2 h2)
  simpa using this
 apply Nat.le_antisymm
 ·have := key a.reverse b.reverse
  simpa using this
 ·exact key a b
theorem lcsLen_le_left (a b : List α) : lcsLen a b ≤ a.length := lcsLen_le_iff.2 fun _ h _ => h.length_le
theorem lcsLen_le_right (a b : List α) : lcsLen a b ≤ b.length := lcsLen_le_iff.2 fun _ _ h => h.length_le
theorem lcsLen_self (a : List α) : lcsLen a a = a.length := by
 apply Nat.le_antisymm (lcsLen_le_left a a)
 exact sub_le _ a a a rfl (List.Sublist.refl a) (List.Sublist.refl a)
theorem lcsLen_full {a b : List α} (h1 : lcsLen a b = a.length) (h2 : lcsLen a b = b.length) : a = b := by
 obtain ⟨c, k1, k2, k3⟩ := sub_ex _ a b rfl
 have e1 := k1.eq_of_length (by omega)
 have e2 := k2.eq_of_length (by omega)
 rw [← e1, e2]
omit [DecidableEq α] in
/-- Two sublists of a list have many elements in common. -/
theorem sub_meet : ∀ (b c d : List α), c.Sublist b → d.Sublist b → ∃ e : List α, e.Sublist c ∧ e.Sublist d ∧ c.length + d.length ≤ b.length + e.length
 | [], c, d, h1, h2 => ⟨[], List.nil_sublist _, List.nil_sublist _, by simp [List.sublist_nil.1 h1, List.sublist_nil.1 h2]⟩
 | x :: b, c, d, h1, h2 => by
  cases h1 with
  | cons _ h1 =>
   cases h2 with
   | cons _ h2 =>
    obtain ⟨e, k1, k2, k3⟩ := sub_meet b c d h1 h2
    exact ⟨e, k1, k2, by simp only [List.length_cons]; omega⟩
   | cons_cons _ h2 =>
    rename_i d'
    obtain ⟨e, k1, k2, k3⟩ := sub_meet b c d' h1 h2
    exact ⟨e, k1, k2.cons x, by simp only [List.length_cons]; omega⟩
  | cons_cons _ h1 =>
   rename_i c'
   cases h2 with
   | cons _ h2 =>
    obtain ⟨e, k1, k2, k3⟩ := sub_meet b c' d h1 h2
    exact ⟨e, k1.cons x, k2, by simp only [List.length_cons]; omega⟩
   | cons_cons _ h2 =>
    rename_i d'
    obtain ⟨e, k1, k2, k3⟩ := sub_meet b c' d' h1 h2
    exact ⟨x :: e, k1.cons_cons x, k2.cons_cons x, by simp only [List.length_cons]; omega⟩
theorem lcsLen_triangle (a b c : List α) : lcsLen a b + lcsLen b c ≤ b.length + lcsLen a c := by
 obtain ⟨u, h1, h2, h3⟩ := sub_ex _ a b rfl
 obtain ⟨v, k1, k2, k3⟩ := sub_ex _ b c rfl
 obtain ⟨e, e1, e2, e3⟩ := sub_meet b u v h2 k1
 have := sub_le _ a c e rfl (e1.trans h1) (e2.trans k2)
 omega
theorem lcsLen_mono_left (x : α) (a b : List α) : lcsLen a b ≤ lcsLen (x :: a) b := lcsLen_le_iff.2 fun c h1 h2 => sub_le _ (x :: a) b c rfl (h1.cons x) h2
theorem lcsLen_mono_right (y : α) (a b : List α) : lcsLen a b ≤ lcsLen a (y :: b) := lcsLen_le_iff.2 fun c h1 h2 => sub_le _ a (y :: b) c rfl h1 (h2.cons y)
theorem lcsLen_succ_left (x : α) (a b : List α) : lcsLen (x :: a) b ≤ lcsLen a b + 1 := lcsLen_le_iff.2 fun c h1 h2 => by
 cases h1 with
 | cons _ h1 => have := sub_le _ a b c rfl h1 h2; omega
 | cons_cons _ h1 =>
  rename_i c'
  have := sub_le _ a b c' rfl h1 ((List.sublist_cons_self _ _).trans h2)
  simp only [List.length_cons]
  omega
theorem lcsLen_drop_left (a b : List α) (i j : Nat) (h : i ≤ j) : lcsLen (a.drop j) b ≤ lcsLen (a.drop i) b := lcsLen_le_iff.2 fun c h1 h2 => sub_le _ _ b c rfl (h1.trans (by
 have e : a.drop j = (a.drop i).drop (j - i) := by rw [List.drop_drop]; congr 1; omega
 rw [e]
 exact List.drop_sublist _ _)) h2
theorem lcsLen_drop_right (a b : List α) (i j : Nat) (h : i ≤ j) : lcsLen a (b.drop j) ≤ lcsLen a (b.drop i) := by
 rw [lcsLen_comm a, lcsLen_comm a]
 exact lcsLen_drop_left b a i j h

/-! ### Matchings by indices -/
/-- The length of the rests from i and k on. -/
def LL (a b : List α) (i k : Nat) : Nat := lcsLen (a.drop i) (b.drop k)
theorem LL_end_left (a b : List α) (i k : Nat) (h : a.length ≤ i) : LL a b i k = 0 := by
 unfold LL
 rw [List.drop_eq_nil_of_le h, lcsLen_nil_left]
theorem LL_end_right (a b : List α) (i k : Nat) (h : b.length ≤ k) : LL a b i k = 0 := by
 unfold LL
 rw [List.drop_eq_nil_of_le h, lcsLen_nil_right]
theorem LL_step (a b : List α) (i k : Nat) (h1 : i < a.length) (h2 : k < b.length) : LL a b i k = if a[i] = b[k] then LL a b (i + 1) (k + 1) + 1 else max (LL a b (i + 1) k) (LL a b i (k + 1)) := by
 unfold LL
 rw [drop_at a i h1, drop_at b k h2, lcsLen_cons]
theorem LL_mono (a b : List α) {i i' k k' : Nat} (h1 : i ≤ i') (h2 : k ≤ k') : LL a b i' k' ≤ LL a b i k := Nat.le_trans (lcsLen_drop_left a _ i i' h1) (lcsLen_drop_right _ b k k' h2)
theorem LL_pair (a b : List α) {i i' k k' : Nat} (h1 : i ≤ i') (h2 : k ≤ k') (h3 : i' < a.length) (h4 : k' < b.length) (he : a[i'] = b[k']) : LL a b (i' + 1) (k' + 1) + 1 ≤ LL a b i k := by
 have := LL_step a b i' k' h3 h4
 rw [if_pos he] at this
 rw [← this]
 exact LL_mono a b h1 h2
/-- A pair that a best matching of the rests from i and k on begins with. -/
def Good (a b : List α) (i k i' k' : Nat) : Prop := i ≤ i' ∧ k ≤ k' ∧ ∃ (h1 : i' < a.length) (h2 : k' < b.length), a[i'] = b[k'] ∧ LL a b (i' + 1) (k' + 1) + 1 = LL a b i k
instance (a b : List α) (i k i' k' : Nat) : Decidable (Good a b i k i' k') := by unfold Good; infer_instance
theorem Good.ex (a b : List α) : ∀ (n i k : Nat), (a.length - i) + (b.length - k) = n → 0 < LL a b i k → ∃ i' k', Good a b i k i' k' := by
 intro n
 induction n using Nat.strongRecOn with
 | _ n ih =>
  intro i k hn hp
  have h1 : i < a.length := by
   rcases Nat.lt_or_ge i a.length with h | h
   ·exact h
   ·rw [LL_end_left a b i k h] at hp
    omega
  have h2 : k < b.length := by
   rcases Nat.lt_or_ge k b.length with h | h
   ·exact h
   ·rw [LL_end_right a b i k h] at hp
    omega
  have hs := LL_step a b i k h1 h2
  by_cases he : a[i] = b[k]
  ·rw [if_pos he] at hs
   exact ⟨i, k, Nat.le_refl _, Nat.le_refl _, h1, h2, he, by omega⟩
  ·rw [if_neg he] at hs
   by_cases hm : LL a b (i + 1) k = LL a b i k
   ·obtain ⟨i', k', g1, g2, g3, g4, g5, g6⟩ := ih _ (by omega) (i + 1) k rfl (by omega)
    exact ⟨i', k', by omega, g2, g3, g4, g5, by omega⟩
   ·obtain ⟨i', k', g1, g2, g3, g4, g5, g6⟩ := ih _ (by omega) i (k + 1) rfl (by omega)
    exact ⟨i', k', g1, by omega, g3, g4, g5, by omega⟩
/-- One pair before another one. -/
def lexLt (p q : Nat × Nat) : Prop := p.1 < q.1 ∨ p.1 = q.1 ∧ p.2 < q.2
instance (p q : Nat × Nat) : Decidable (lexLt p q) := by unfold lexLt; infer_instance
/-- The first good pair. -/
def First (a b : List α) (i k : Nat) (p : Nat × Nat) : Prop := Good a b i k p.1 p.2 ∧ ∀ q : Nat × Nat, Good a b i k q.1 q.2 → ¬ lexLt q p
theorem First.uniq {a b : List α} {i k : Nat} {p q : Nat × Nat} (h : First a b i k p) (h' : First a b i k q) : p = q := by
 have h1 := h.2 q h'.1
 have h2 := h'.2 p h.1
 obtain ⟨p1, p2⟩ := p
 obtain ⟨q1, q2⟩ := q
 simp only [lexLt] at h1 h2
 simp only [Prod.mk.injEq]
 omega
theorem First.ex (a b : List α) (i k : Nat) (hp : 0 < LL a b i k) : ∃ p, First a b i k p := by
 obtain ⟨i0, k0, hg⟩ := Good.ex a b _ i k rfl hp
 -- the least first index, then the least second one
 have hi : ∃ i', (∃ k', Good a b i k i' k') ∧ ∀ j, j < i' → ¬ ∃ k', Good a b i k j k' := by
  have key : ∀ n, (∃ k', Good a b i k n k') → ∃ i', (∃ k', Good a b i k i' k') ∧ ∀ j, j < i' → ¬ ∃ k', Good a b i k j k' := by
   intro n
   induction n using Nat.strongRecOn with
   | _ n ih =>
    intro hn
    by_cases h : ∃ j, j < n ∧ ∃ k', Good a b i k j k'
    ·obtain ⟨j, hj, hk⟩ := h
     exact ih j hj hk
    ·exact ⟨n, hn, fun j hj hk => h ⟨j, hj, hk⟩⟩
  exact key i0 ⟨k0, hg⟩
 obtain ⟨i1, ⟨k1, hg1⟩, hmin⟩ := hi
 have key : ∀ n, Good a b i k i1 n → ∃ k', Good a b i k i1 k' ∧ ∀ j, j < k' → ¬ Good a b i k i1 j := by
  intro n
  induction n using Nat.strongRecOn with
  | _ n ih =>
   intro hn
   by_cases h : ∃ j, j < n ∧ Good a b i k i1 j
   ·obtain ⟨j, hj, hk⟩ := h
    exact ih j hj hk
   ·exact ⟨n, hn, fun j hj hk => h ⟨j, hj, hk⟩⟩
 obtain ⟨k2, hg2, hmin2⟩ := key k1 hg1
 refine ⟨(i1, k2), hg2, fun q hq hlt => ?_⟩
 rcases hlt with hlt | ⟨he, hlt⟩
 ·exact hmin q.1 hlt ⟨q.2, hq⟩
 ·exact hmin2 q.2 hlt (by
   have e : q.1 = i1 := he
   rw [← e]
   exact hq)
/-- The best matching of the rests: the first good pair, and so on. -/
inductive Greedy (a b : List α) : Nat → Nat → List (Nat × Nat) → Prop
 | nil (i k : Nat) (h : LL a b i k = 0) : Greedy a b i k []
 | cons (i k : Nat) (p : Nat × Nat) (m : List (Nat × Nat)) (hf : First a b i k p) (hm : Greedy a b (p.1 + 1) (p.2 + 1) m) : Greedy a b i k (p :: m)
theorem First.pos {a b : List α} {i k : Nat} {p : Nat × Nat} (h : First a b i k p) : 0 < LL a b i k := by
 obtain ⟨⟨_, _, _, _, _, h6⟩, _⟩ := h
 omega
theorem Greedy.uniq {a b : List α} : ∀ {m n : List (Nat × Nat)} {i k : Nat}, Greedy a b i k m → Greedy a b i k n → m = n := by
 intro m
 induction m with
 | nil =>
  intro n i k h h'
  cases h with
  | nil _ _ h0 =>
   cases h' with
   | nil => rfl
   | cons _ _ p m' hf _ => have := hf.pos; omega
 | cons p m ih =>
  intro n i k h h'
  cases h with
  | cons _ _ _ _ hf hm =>
   cases h' with
   | nil _ _ h0 => have := hf.pos; omega
   | cons _ _ q m' hf' hm' =>
    have e := hf.uniq hf'
    subst e
    rw [ih hm hm']
theorem Greedy.ex (a b : List α) : ∀ (n i k : Nat), LL a b i k = n → ∃ m, Greedy a b i k m ∧ m.length = n := by
 intro n
 induction n with
 | zero => exact fun i k h => ⟨[], .nil i k h, rfl⟩
 | succ n ih =>
  intro i k h
  obtain ⟨p, hp⟩ := First.ex a b i k (by omega)
  obtain ⟨m, hm, hl⟩ := ih (p.1 + 1) (p.2 + 1) (by
   obtain ⟨⟨_, _, _, _, _, h6⟩, _⟩ := hp
   omega)
  exact ⟨p :: m, .cons i k p m hp hm, by simp [hl]⟩
theorem Greedy.length {a b : List α} {i k : Nat} {m : List (Nat × Nat)} (h : Greedy a b i k m) : m.length = LL a b i k := by
 obtain ⟨n, hn, hl⟩ := Greedy.ex a b _ i k rfl
 rw [Greedy.uniq h hn, hl]

/-- A matching of the rests from i and k on. -/
inductive Match (a b : List α) : Nat → Nat → List (Nat × Nat) → Prop
 | nil (i k : Nat) : Match a b i k []
 | cons (i k : Nat) (p : Nat × Nat) (m : List (Nat × Nat)) (h1 : i ≤ p.1) (h2 : k ≤ p.2) (h3 : p.1 < a.length) (h4 : p.2 < b.length) (he : a[p.1] = b[p.2]) (hm : Match a b (p.1 + 1) (p.2 + 1) m) : Match a b i k (p :: m)
theorem Match.length_le {a b : List α} {i k : Nat} {m : List (Nat × Nat)} (h : Match a b i k m) : m.length ≤ LL a b i k := by
 induction h with
 | nil => simp
 | cons i k p m h1 h2 h3 h4 he hm ih =>
  have := LL_pair a b h1 h2 h3 h4 he
  simp only [List.length_cons]
  omega
theorem Greedy.match {a b : List α} {i k : Nat} {m : List (Nat × Nat)} (h : Greedy a b i k m) : Match a b i k m := by
 induction h with
 | nil i k _ => exact .nil i k
 | cons i k p m hf hm ih =>
  obtain ⟨⟨g1, g2, g3, g4, g5, _⟩, _⟩ := hf
  exact .cons i k p m g1 g2 g3 g4 g5 ih
/-- One matching before another one. -/
def before : List (Nat × Nat) → List (Nat × Nat) → Bool
 | p :: m, q :: n => if p.1 ≠ q.1 then decide (p.1 < q.1) else if p.2 ≠ q.2 then decide (p.2 < q.2) else before m n
 | _, _ => false
theorem before_cons (p q : Nat × Nat) (m n : List (Nat × Nat)) : before (p :: m) (q :: n) = (decide (lexLt p q) || (decide (p = q) && before m n)) := by
 obtain ⟨p1, p2⟩ := p
 obtain ⟨q1, q2⟩ := q
 simp only [before, lexLt, Prod.mk.injEq]
 by_cases h1 : p1 = q1
 ·subst h1
  by_cases h2 : p2 = q2
  ·subst h2
   simp
  ·simp [h2]
 ·simp [h1]
/-- No matching with as many pairs comes before the best one. -/
theorem Greedy.first {a b : List α} {i k : Nat} {m : List (Nat × Nat)} (h : Greedy a b i k m) : ∀ n : List (Nat × Nat), Match a b i k n → n.length = m.length → before n m = false := by
 induction h with
 | nil i k _ =>
  intro n _ hl
  have : n = [] := List.eq_nil_of_length_eq_zero hl
  subst this
  rfl
 | cons i k p m hf hm ih =>
  intro n hn hl
  cases hn with
  | nil => simp at hl
  | cons _ _ q n h1 h2 h3 h4 he hn =>
   simp only [List.length_cons] at hl
   have hq : Good a b i k q.1 q.2 := by
    refine ⟨h1, h2, h3, h4, he, ?_⟩
    have k1 := LL_pair a b h1 h2 h3 h4 he
    have k2 := hn.length_le
    have k3 := hm.length
    have k4 : LL a b (p.1 + 1) (p.2 + 1) + 1 = LL a b i k := by
     obtain ⟨⟨_, _, _, _, _, g6⟩, _⟩ := hf
     exact g6
    omega
   have hlt := hf.2 q hq
   rw [before_cons, decide_eq_false hlt, Bool.false_or]
   by_cases e : q = p
   ·subst e
    rw [ih n hn (by omega), Bool.and_false]
   ·rw [decide_eq_false e, Bool.false_and]
/-- The better one of two: more pairs, or before. -/
def betterP (m n : List (Nat × Nat)) : List (Nat × Nat) := if n.length > m.length then n else if n.length = m.length ∧ before n m = true then n else m
theorem before_irrefl : ∀ m : List (Nat × Nat), before m m = false
 | [] => rfl
 | p :: m => by
  rw [before_cons, before_irrefl m]
  simp [lexLt]
/-- The rests one row on, or one column on. -/
theorem Greedy.step_ne {a b : List α} {i k : Nat} (h1 : i < a.length) (h2 : k < b.length) (hne : a[i] ≠ b[k]) {m n : List (Nat × Nat)} (hm : Greedy a b (i + 1) k m) (hn : Greedy a b i (k + 1) n) : Greedy a b i k (betterP m n) := by
 have hs := LL_step a b i k h1 h2
 rw [if_neg hne] at hs
 have lm := hm.length
 have ln := hn.length
 have down : ∀ q : Nat × Nat, Good a b i k q.1 q.2 → (LL a b (i + 1) k = LL a b i k ∧ Good a b (i + 1) k q.1 q.2) ∨ (LL a b i (k + 1) = LL a b i k ∧ Good a b i (k + 1) q.1 q.2) := by
  rintro q ⟨g1, g2, g3, g4, g5, g6⟩
  by_cases hi : q.1 = i
  ·have hk : q.2 ≠ k := by
    intro hk
    apply hne
    have : a[q.1] = b[q.2] := g5
    simpa [hi, hk] using this
   right
   have := LL_pair a b (i := i) (k := k + 1) g1 (by omega) g3 g4 g5
   have e : LL a b i (k + 1) = LL a b i k := by omega
   exact ⟨e, g1, by omega, g3, g4, g5, by omega⟩
  ·left
   have := LL_pair a b (i := i + 1) (k := k) (by omega) g2 g3 g4 g5
   have e : LL a b (i + 1) k = LL a b i k := by omega
   exact ⟨e, by omega, g2, g3, g4, g5, by omega⟩
 have upm : ∀ q : Nat × Nat, LL a b (i + 1) k = LL a b i k → Good a b (i + 1) k q.1 q.2 → Good a b i k q.1 q.2 := by
  rintro q e ⟨g1, g2, g3, g4, g5, g6⟩
  exact ⟨by omega, g2, g3, g4, g5, by omega⟩
 have upn : ∀ q : Nat × Nat, LL a b i (k + 1) = LL a b i k → Good a b i (k + 1) q.1 q.2 → Good a b i k q.1 q.2 := by
  rintro q e ⟨g1, g2, g3, g4, g5, g6⟩
  exact ⟨g1, by omega, g3, g4, g5, by omega⟩
 unfold betterP
 by_cases c1 : n.length > m.length
 ·rw [if_pos c1]
  cases hn with
  | nil => simp at c1
  | cons _ _ q n hf hn =>
   refine .cons i k q n ⟨upn q (by omega) hf.1, fun r hr => ?_⟩ hn
   rcases down r hr with ⟨e, _⟩ | ⟨_, hr⟩
   ·omega
   ·exact hf.2 r hr
 ·rw [if_neg c1]
  by_cases c2 : n.length = m.length
  ·cases hm with
   | nil _ _ h0 =>
    have : n = [] := List.eq_nil_of_length_eq_zero c2
    subst this
    simp only [before, Bool.false_eq_true, and_false, if_false]
    exact .nil i k (by omega)
   | cons _ _ p m hfm hm' =>
    cases hn with
    | nil => simp at c2
    | cons _ _ q n hfn hn' =>
     rw [before_cons]
     have em : LL a b (i + 1) k = LL a b i k := by omega
     have en : LL a b i (k + 1) = LL a b i k := by omega
     by_cases hlt : lexLt q p
     ·rw [if_pos ⟨c2, by simp [hlt]⟩]
      refine .cons i k q n ⟨upn q en hfn.1, fun r hr hrq => ?_⟩ hn'
      rcases down r hr with ⟨_, hr⟩ | ⟨_, hr⟩
      ·refine hfm.2 r hr ?_
       simp only [lexLt] at hlt hrq ⊢
       omega
      ·exact hfn.2 r hr hrq
     ·have first : First a b i k p := by
       refine ⟨upm p em hfm.1, fun r hr hrp => ?_⟩
       rcases down r hr with ⟨_, hr⟩ | ⟨_, hr⟩
       ·exact hfm.2 r hr hrp
       ·have := hfn.2 r hr
        apply this
        simp only [lexLt] at hlt hrp ⊢
        omega
      by_cases e : q = p
      ·subst e
       have : n = m := Greedy.uniq hn' hm'
       subst this
       rw [before_irrefl]
       simp only [hlt, decide_false, Bool.and_false, Bool.or_false, Bool.false_eq_true, and_false, if_false]
       exact .cons i k q n first hm'
      ·rw [if_neg (by simp [hlt, e])]
       exact .cons i k p m first hm'
  ·rw [if_neg (fun h => c2 h.1)]
   cases hm with
   | nil _ _ h0 =>
    simp only [List.length_nil] at c1 c2
    omega
   | cons _ _ p m hf hm' =>
    refine .cons i k p m ⟨upm p (by omega) hf.1, fun r hr => ?_⟩ hm'
    rcases down r hr with ⟨_, hr⟩ | ⟨e, _⟩
    ·exact hf.2 r hr
    ·omega
/-- Where the first elements are the same, the best matching begins with them. -/
theorem Greedy.step_eq {a b : List α} {i k : Nat} (h1 : i < a.length) (h2 : k < b.length) (he : a[i] = b[k]) {m : List (Nat × Nat)} (hm : Greedy a b (i + 1) (k + 1) m) : Greedy a b i k ((i, k) :: m) := by
 have hs := LL_step a b i k h1 h2
 rw [if_pos he] at hs
 refine .cons i k (i, k) m ⟨⟨Nat.le_refl _, Nat.le_refl _, h1, h2, he, hs.symm⟩, ?_⟩ hm
 rintro q ⟨g1, g2, _⟩ hq
 simp only [lexLt] at hq
 omega
theorem Greedy.head_ge {a b : List α} {i k : Nat} {p : Nat × Nat} {m : List (Nat × Nat)} (h : Greedy a b i k (p :: m)) : i ≤ p.1 ∧ k ≤ p.2 := by
 cases h with
 | cons _ _ _ _ hf _ => exact ⟨hf.1.1, hf.1.2.1⟩
theorem Greedy.step_all {a b : List α} {i k : Nat} (h1 : i < a.length) (h2 : k < b.length) {m n c : List (Nat × Nat)} (hm : Greedy a b (i + 1) k m) (hn : Greedy a b i (k + 1) n) (hc : Greedy a b (i + 1) (k + 1) c) :
  Greedy a b i k (if a[i] = b[k] then betterP (betterP m n) ((i, k) :: c) else betterP m n) := by
 by_cases he : a[i] = b[k]
 ·rw [if_pos he]
  have hg := Greedy.step_eq h1 h2 he hc
  have lg := hg.length
  have lm := hm.length
  have ln := hn.length
  have l1 : LL a b (i + 1) k ≤ LL a b i k := LL_mono a b (Nat.le_succ i) (Nat.le_refl k)
  have l2 : LL a b i (k + 1) ≤ LL a b i k := LL_mono a b (Nat.le_refl i) (Nat.le_succ k)
  have key : betterP (betterP m n) ((i, k) :: c) = (i, k) :: c := by
   have hb : (betterP m n = m ∨ betterP m n = n) := by
    unfold betterP
    split
    ·exact .inr rfl
    ·split
     ·exact .inr rfl
     ·exact .inl rfl
   have later : ∀ x : List (Nat × Nat), x.length ≤ ((i, k) :: c).length → (∀ p y, x = p :: y → i ≤ p.1 ∧ k ≤ p.2 ∧ p ≠ (i, k)) → betterP x ((i, k) :: c) = (i, k) :: c := by
    intro x hx hf
    unfold betterP
    by_cases c1 : ((i, k) :: c).length > x.length
    ·rw [if_pos c1]
    ·rw [if_neg c1]
     cases x with
     | nil => simp at c1
     | cons p y =>
      have := hf p y rfl
      rw [if_pos]
      refine ⟨by omega, ?_⟩
      rw [before_cons]
      obtain ⟨p1, p2⟩ := p
      simp only [ne_eq, Prod.mk.injEq, not_and] at this
      have hl : lexLt (i, k) (p1, p2) := by
       simp only [lexLt]
       omega
      simp [hl]
   rcases hb with hb | hb
   ·rw [hb]
    refine later m (by omega) (fun p y e => ?_)
    subst e
    have := hm.head_ge
    refine ⟨by omega, this.2, fun e => ?_⟩
    rw [e] at this
    simp only at this
    omega
   ·rw [hb]
    refine later n (by omega) (fun p y e => ?_)
    subst e
    have := hn.head_ge
    refine ⟨this.1, by omega, fun e => ?_⟩
    rw [e] at this
    simp only at this
    omega
  rw [key]
  exact hg
 ·rw [if_neg he]
  exact Greedy.step_ne h1 h2 he hm hn
end
end Go.Proofs.Ytnajpgimhoighaa.Pr
