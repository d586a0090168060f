/- Part 19 of the proof of MergeLaws: texts put together. -/
import Derived.Test.YtahpbpacjciddaaJMergeLaws4
import Derived.Test.YtahpbpacjciddaaJMergeLaws5
import Derived.Test.YtahpbpacjciddaaJMergeLaws8
import Derived.Test.YtahpbpacjciddaaJMergeLaws9
import Derived.Test.YtahpbpacjciddaaJMergeLaws11
import Derived.Test.YtahpbpacjciddaaJMergeLaws14
section
namespace Go.Proofs.Ytahpbpacjciddaa.Pr
section
variable {α : Type} [DecidableEq α]
def lcsLen : List α → List α → Nat
 | [], _ => 0
 | _ :: _, [] => 0
 | x :: a, y :: b => if x = y then lcsLen a b + 1 else max (lcsLen a (y :: b)) (lcsLen (x :: a) b)
termination_by a b => a.length + b.length
theorem lcsLen_nil_left (b : List α) : lcsLen ([] : List α) b = 0 := by rw [lcsLen]
theorem lcsLen_nil_right (a : List α) : lcsLen a ([] : List α) = 0 := by cases a <;> rw [lcsLen]
theorem lcsLen_cons (x y : α) (a b : List α) : lcsLen (x :: a) (y :: b) = if x = y then lcsLen a b + 1 else max (lcsLen a (y :: b)) (lcsLen (x :: a) b) := by rw [lcsLen]
theorem sub_le : ∀ (n : Nat) (a b c : List α), a.length + b.length = n → c.Sublist a → c.Sublist b → c.length ≤ lcsLen a b := by
 intro n
 induction n using Nat.strongRecOn with
 | _ n ih =>
  intro a b c hn ha hb
  match a, b with
  | [], b => simp [List.sublist_nil.1 ha]
  | x :: a, [] => simp [List.sublist_nil.1 hb]
  | x :: a, y :: b =>
   simp only [List.length_cons] at hn
   rw [lcsLen_cons]
   cases ha with
   | cons _ ha =>
    have h1 := ih (a.length + (y :: b).length) (by simp only [List.length_cons]; omega) a (y :: b) c rfl ha hb
    split
    ·rename_i hxy
     cases hb with
     | cons _ hb =>
      have := ih (a.length + b.length) (by omega) a b c rfl ha hb
      omega
     | cons_cons _ hb =>
      rename_i c'
      have := ih (a.length + b.length) (by omega) a b c' rfl ((List.sublist_cons_self _ _).trans ha) hb
      simp only [List.length_cons]
      omega
    ·omega
   | cons_cons _ ha =>
    rename_i c'
    cases hb with
    | cons _ hb =>
     have h1 := ih ((x :: a).length + b.length) (by simp only [List.length_cons]; omega) (x :: a) b (x :: c') rfl (ha.cons_cons x) hb
     split
     ·rename_i hxy
      have := ih (a.length + b.length) (by omega) a b c' rfl ha ((List.sublist_cons_self _ _).trans hb)
      simp only [List.length_cons]
      omega
     ·omega
    | cons_cons _ hb =>
     rw [if_pos rfl]
     have := ih (a.length + b.length) (by omega) a b c' rfl ha hb
     simp only [List.length_cons]
     omega
theorem sub_ex : ∀ (n : Nat) (a b : List α), a.length + b.length = n → ∃ c : List α, c.Sublist a ∧ c.Sublist b ∧ c.length = lcsLen a b := by
 intro n
 induction n using Nat.strongRecOn with
 | _ n ih =>
  intro a b hn
  match a, b with
  | [], b => exact ⟨[], List.nil_sublist _, List.nil_sublist _, by rw [lcsLen_nil_left]; rfl⟩
  | x :: a, [] => exact ⟨[], List.nil_sublist _, List.nil_sublist _, by rw [lcsLen_nil_right]; rfl⟩
  | x :: a, y :: b =>
   simp only [List.length_cons] at hn
   rw [lcsLen_cons]
   by_cases hxy : x = y
   ·subst hxy
    rw [if_pos rfl]
    obtain ⟨c, h1, h2, h3⟩ := ih (a.length + b.length) (by omega) a b rfl
    exact ⟨x :: c, h1.cons_cons x, h2.cons_cons x, by simp [h3]⟩
   ·rw [if_neg hxy]
    obtain ⟨c, h1, h2, h3⟩ := ih (a.length + (y :: b).length) (by simp only [List.length_cons]; omega) a (y :: b) rfl
    obtain ⟨d, k1, k2, k3⟩ := ih ((x :: a).length + b.length) (by simp only [List.length_cons]; omega) (x :: a) b rfl
    by_cases hm : lcsLen (x :: a) b ≤ lcsLen a (y :: b)
    ·exact ⟨c, h1.cons x, h2, by rw [h3]; omega⟩
    ·exact ⟨d, k1, k2.cons y, by rw [k3]; omega⟩
theorem lcsLen_le_iff {a b : List α} {n : Nat} : lcsLen a b ≤ n ↔ ∀ c : List α, c.Sublist a → c.Sublist b → c.length ≤ n := by
 constructor
 ·intro h c h1 h2
  exact Nat.le_trans (sub_le _ a b c rfl h1 h2) h
 ·intro h
  obtain ⟨c, h1, h2, h3⟩ := sub_ex _ a b rfl
  rw [← h3]
  exact h c h1 h2
theorem lcsLen_comm (a b : List α) : lcsLen a b = lcsLen b a := by
 apply Nat.le_antisymm
 ·exact lcsLen_le_iff.2 fun c h1 h2 => sub_le _ b a c rfl h2 h1
 ·exact lcsLen_le_iff.2 fun c h1 h2 => sub_le _ a b c rfl h2 h1
theorem lcsLen_reverse (a b : List α) : lcsLen a.reverse b.reverse = lcsLen a b := by
 have key : ∀ a b : List α, lcsLen a b ≤ lcsLen a.reverse b.reverse := fun a b => lcsLen_le_iff.2 fun c h1 h2 => by
  have := sub_le _ a.reverse b.reverse c.reverse rfl (List.reverse_sublist.2 h1) (List.reverse_sublist.2 h2)
  simpa using this
 apply Nat.le_antisymm
 ·have := key a.reverse b.reverse
  simpa using this
 ·exact key a b
theorem lcsLen_le_left (a b : List α) : lcsLen a b ≤ a.length := lcsLen_le_iff.2 fun _ h _ => h.length_le
theorem lcsLen_le_right (a b : List α) : lcsLen a b ≤ b.length := lcsLen_le_iff.2 fun _ _ h => h.length_le
theorem lcsLen_self (a : List α) : lcsLen a a = a.length := by
 apply Nat.le_antisymm (lcsLen_le_left a a)
 exact sub_le _ a a a rfl (List.Sublist.refl a) (List.Sublist.refl a)
theorem lcsLen_full {a b : List α} (h1 : lcsLen a b = a.length) (h2 : lcsLen a b = b.length) : a = b := by
 obtain ⟨c, k1, k2, k3⟩ := sub_ex _ a b rfl
 have e1 := k1.eq_of_length (by omega)
 have e2 := k2.eq_of_length (by omega)
 rw [← e1, e2]
omit [DecidableEq α] in
theorem sub_meet : ∀ (b c d : List α), c.Sublist b → d.Sublist b → ∃ e : List α, e.Sublist c ∧ e.Sublist d ∧ c.length + d.length ≤ b.length + e.length
 | [], c, d, h1, h2 => ⟨[], List.nil_sublist _, List.nil_sublist _, by simp [List.sublist_nil.1 h1, List.sublist_nil.1 h2]⟩
 | x :: b, c, d, h1, h2 => by
  cases h1 with
  | cons _ h1 =>
   cases h2 with
   | cons _ h2 =>
    obtain ⟨e, k1, k2, k3⟩ := sub_meet b c d h1 h2
    exact ⟨e, k1, k2, by simp only [List.length_cons]; omega⟩
   | cons_cons _ h2 =>
    rename_i d'
    obtain ⟨e, k1, k2, k3⟩ := sub_meet b c d' h1 h2
    exact ⟨e, k1, k2.cons x, by simp only [List.length_cons]; omega⟩
  | cons_cons _ h1 =>
   rename_i c'
   cases h2 with
   | cons _ h2 =>
    obtain ⟨e, k1, k2, k3⟩ := sub_meet b c' d h1 h2
    exact ⟨e, k1.cons x, k2, by simp only [List.length_cons]; omega⟩
   | cons_cons _ h2 =>
    rename_i d'
    obtain ⟨e, k1, k2, k3⟩ := sub_meet b c' d' h1 h2
    exact ⟨x :: e, k1.cons_cons x, k2.cons_cons x, by simp only [List.length_cons]; omega⟩
theorem lcsLen_triangle (a b c : List α) : lcsLen a b + lcsLen b c ≤ b.length + lcsLen a c := by
 obtain ⟨u, h1, h2, h3⟩ := sub_ex _ a b rfl
 obtain ⟨v, k1, k2, k3⟩ := sub_ex _ b c rfl
 obtain ⟨e, e1, e2, e3⟩ := sub_meet b u v h2 k1
 have := sub_le _ a c e rfl (e1.trans h1) (e2.trans k2)
 omega
theorem lcsLen_mono_left (x : α) (a b : List α) : lcsLen a b ≤ lcsLen (x :: a) b := lcsLen_le_iff.2 fun c h1 h2 => sub_le _ (x :: a) b c rfl (h1.cons x) h2
theorem lcsLen_mono_right (y : α) (a b : List α) : lcsLen a b ≤ lcsLen a (y :: b) := lcsLen_le_iff.2 fun c h1 h2 => sub_le _ a (y :: b) c rfl h1 (h2.cons y)
theorem lcsLen_succ_left (x : α) (a b : List α) : lcsLen (x :: a) b ≤ lcsLen a b + 1 := lcsLen_le_iff.2 fun c h1 h2 => by
 cases h1 with
 | cons _ h1 => have := sub_le _ a b c rfl h1 h2; omega
 | cons_cons _ h1 =>
  rename_i c'
  have := sub_le _ a b c' rfl h1 ((List.sublist_cons_self _ _).trans h2)
  simp only [List.length_cons]
  omega
theorem lcsLen_drop_left (a b : List α) (i j : Nat) (h : i ≤ j) : lcsLen (a.drop j) b ≤ lcsLen (a.drop i) b := lcsLen_le_iff.2 fun c h1 h2 => sub_le _ _ b c rfl (h1.trans (by
 have e : a.drop j = (a.drop i).drop (j - i) := by rw [List.drop_drop]; congr 1; omega
 rw [e]
 exact List.drop_sublist _ _)) h2
theorem lcsLen_drop_right (a b : List α) (i j : Nat) (h : i ≤ j) : lcsLen a (b.drop j) ≤ lcsLen a (b.drop i) := by
 rw [lcsLen_comm a, lcsLen_comm a]
 exact lcsLen_drop_left b a i j h
def LL (a b : List α) (i k : Nat) : Nat := lcsLen (a.drop i) (b.drop k)
theorem LL_end_left (a b : List α) (i k : Nat) (h : a.length ≤ i) : LL a b i k = 0 := by
 unfold LL
 rw [List.drop_eq_nil_of_le h, lcsLen_nil_left]
theorem LL_end_right (a b : List α) (i k : Nat) (h : b.length ≤ k) : LL a b i k = 0 := by
 unfold LL
 rw [List.drop_eq_nil_of_le h, lcsLen_nil_right]
theorem LL_step (a b : List α) (i k : Nat) (h1 : i < a.length) (h2 : k < b.length) : LL a b i k = if a[i] = b[k] then LL a b (i + 1) (k + 1) + 1 else max (LL a b (i + 1) k) (LL a b i (k + 1)) := by
 unfold LL
 rw [drop_at a i h1, drop_at b k h2, lcsLen_cons]
theorem LL_mono (a b : List α) {i i' k k' : Nat} (h1 : i ≤ i') (h2 : k ≤ k') : LL a b i' k' ≤ LL a b i k := Nat.le_trans (lcsLen_drop_left a _ i i' h1) (lcsLen_drop_right _ b k k' h2)
theorem LL_pair (a b : List α) {i i' k k' : Nat} (h1 : i ≤ i') (h2 : k ≤ k') (h3 : i' < a.length) (h4 : k' < b.length) (he : a[i'] = b[k']) : LL a b (i' + 1) (k' + 1) + 1 ≤ LL a b i k := by
 have := LL_step a b i' k' h3 h4
 rw [if_pos he] at this
 rw [← this]
 exact LL_mono a b h1 h2
def Good (a b : List α) (i k i' k' : Nat) : Prop := i ≤ i' ∧ k ≤ k' ∧ ∃ (h1 : i' < a.length) (h2 : k' < b.length), a[i'] = b[k'] ∧ LL a b (i' + 1) (k' + 1) + 1 = LL a b i k
instance (a b : List α) (i k i' k' : Nat) : Decidable (Good a b i k i' k') := by unfold Good; infer_instance
theorem Good.ex (a b : List α) : ∀ (n i k : Nat), (a.length - i) + (b.length - k) = n → 0 < LL a b i k → ∃ i' k', Good a b i k i' k' := by
 intro n
 induction n using Nat.strongRecOn with
 | _ n ih =>
  intro i k hn hp
  have h1 : i < a.length := by
   rcases Nat.lt_or_ge i a.length with h | h
   ·exact h
   ·rw [LL_end_left a b i k h] at hp
    omega
  have h2 : k < b.length := by
   rcases Nat.lt_or_ge k b.length with h | h
   ·exact h
   ·rw [LL_end_right a b i k h] at hp
    omega
  have hs := LL_step a b i k h1 h2
  by_cases he : a[i] = b[k]
  ·rw [if_pos he] at hs
   exact ⟨i, k, Nat.le_refl _, Nat.le_refl _, h1, h2, he, by omega⟩
  ·rw [if_neg he] at hs
   by_cases hm : LL a b (i + 1) k = LL a b i k
   ·obtain ⟨i', k', g1, g2, g3, g4, g5, g6⟩ := ih _ (by omega) (i + 1) k rfl (by omega)
    exact ⟨i', k', by omega, g2, g3, g4, g5, by omega⟩
   ·obtain ⟨i', k', g1, g2, g3, g4, g5, g6⟩ := ih _ (by omega) i (k + 1) rfl (by omega)
    exact ⟨i', k', g1, by omega, g3, g4, g5, by omega⟩
def lexLt (p q : Nat × Nat) : Prop := p.1 < q.1 ∨ p.1 = q.1 ∧ p.2 < q.2
instance (p q : Nat × Nat) : Decidable (lexLt p q) := by unfold lexLt; infer_instance
def First (a b : List α) (i k : Nat) (p : Nat × Nat) : Prop := Good a b i k p.1 p.2 ∧ ∀ q : Nat × Nat, Good a b i k q.1 q.2 → ¬ lexLt q p
theorem First.uniq {a b : List α} {i k : Nat} {p q : Nat × Nat} (h : First a b i k p) (h' : First a b i k q) : p = q := by
 have h1 := h.2 q h'.1
 have h2 := h'.2 p h.1
 obtain ⟨p1, p2⟩ := p
 obtain ⟨q1, q2⟩ := q
 simp only [lexLt] at h1 h2
 simp only [Prod.mk.injEq]
 omega
theorem First.ex (a b : List α) (i k : Nat) (hp : 0 < LL a b i k) : ∃ p, First a b i k p := by
 obtain ⟨i0, k0, hg⟩ := Good.ex a b _ i k rfl hp
 have hi : ∃ i', (∃ k', Good a b i k i' k') ∧ ∀ j, j < i' → ¬ ∃ k', Good a b i k j k' := by
  have key : ∀ n, (∃ k', Good a b i k n k') → ∃ i', (∃ k', Good a b i k i' k') ∧ ∀ j, j < i' → ¬ ∃ k', Good a b i k j k' := by
   intro n
   induction n using Nat.strongRecOn with
   | _ n ih =>
    intro hn
    by_cases h : ∃ j, j < n ∧ ∃ k', Good a b i k j k'
    ·obtain ⟨j, hj, hk⟩ := h
     exact ih j hj hk
    ·exact ⟨n, hn, fun j hj hk => h ⟨j, hj, hk⟩⟩
  exact key i0 ⟨k0, hg⟩
 obtain ⟨i1, ⟨k1, hg1⟩, hmin⟩ := hi
 have key : ∀ n, Good a b i k i1 n → ∃ k', Good a b i k i1 k' ∧ ∀ j, j < k' → ¬ Good a b i k i1 j := by
  intro n
  induction n using Nat.strongRecOn with
  | _ n ih =>
   intro hn
   by_cases h : ∃ j, j < n ∧ Good a b i k i1 j
   ·obtain ⟨j, hj, hk⟩ := h
    exact ih j hj hk
   ·exact ⟨n, hn, fun j hj hk => h ⟨j, hj, hk⟩⟩
 obtain ⟨k2, hg2, hmin2⟩ := key k1 hg1
 refine ⟨(i1, k2), hg2, fun q hq hlt => ?_⟩
 rcases hlt with hlt | ⟨he, hlt⟩
 ·exact hmin q.1 hlt ⟨q.2, hq⟩
 ·exact hmin2 q.2 hlt (by
   have e : q.1 = i1 := he
   rw [← e]
   exact hq)
inductive Greedy (a b : List α) : Nat → Nat → List (Nat × Nat) → Prop
 | nil (i k : Nat) (h : LL a b i k = 0) : Greedy a b i k []
 | cons (i k : Nat) (p : Nat × Nat) (m : List (Nat × Nat)) (hf : First a b i k p) (hm : Greedy a b (p.1 + 1) (p.2 + 1) m) : Greedy a b i k (p :: m)
theorem First.pos {a b : List α} {i k : Nat} {p : Nat × Nat} (h : First a b i k p) : 0 < LL a b i k := by
 obtain ⟨⟨_, _, _, _, _, h6⟩, _⟩ := h
 omega
theorem Greedy.uniq {a b : List α} : ∀ {m n : List (Nat × Nat)} {i k : Nat}, Greedy a b i k m → Greedy a b i k n → m = n := by
 intro m
 induction m with
 | nil =>
  intro n i k h h'
  cases h with
  | nil _ _ h0 =>
   cases h' with
   | nil => rfl
   | cons _ _ p m' hf _ => have := hf.pos; omega
 | cons p m ih =>
  intro n i k h h'
  cases h with
  | cons _ _ _ _ hf hm =>
   cases h' with
   | nil _ _ h0 => have := hf.pos; omega
   | cons _ _ q m' hf' hm' =>
    have e := hf.uniq hf'
    subst e
    rw [ih hm hm']
theorem Greedy.ex (a b : List α) : ∀ (n i k : Nat), LL a b i k = n → ∃ m, Greedy a b i k m ∧ m.length = n := by
 intro n
 induction n with
 | zero => exact fun i k h => ⟨[], .nil i k h, rfl⟩
 | succ n ih =>
  intro i k h
  obtain ⟨p, hp⟩ := First.ex a b i k (by omega)
  obtain ⟨m, hm, hl⟩ := ih (p.1 + 1) (p.2 + 1) (by
   obtain ⟨⟨_, _, _, _, _, h6⟩, _⟩ := hp
   omega)
  exact ⟨p :: m, .cons i k p m hp hm, by simp [hl]⟩
theorem Greedy.length {a b : List α} {i k : Nat} {m : List (Nat × Nat)} (h : Greedy a b i k m) : m.length = LL a b i k := by
 obtain ⟨n, hn, hl⟩ := Greedy.ex a b _ i k rfl
 rw [Greedy.uniq h hn, hl]
inductive Match (a b : List α) : Nat → Nat → List (Nat × Nat) → Prop
 | nil (i k : Nat) : Match a b i k []
 | cons (i k : Nat) (p : Nat × Nat) (m : List (Nat × Nat)) (h1 : i ≤ p.1) (h2 : k ≤ p.2) (h3 : p.1 < a.length) (h4 : p.2 < b.length) (he : a[p.1] = b[p.2]) (hm : Match a b (p.1 + 1) (p.2 + 1) m) : Match a b i k (p :: m)
theorem Match.length_le {a b : List α} {i k : Nat} {m : List (Nat × Nat)} (h : Match a b i k m) : m.length ≤ LL a b i k := by
 induction h with
 | nil => simp
 | cons i k p m h1 h2 h3 h4 he hm ih =>
  have := LL_pair a b h1 h2 h3 h4 he
  simp only [List.length_cons]
  omega
theorem Greedy.match {a b : List α} {i k : Nat} {m : List (Nat × Nat)} (h : Greedy a b i k m) : Match a b i k m := by
 induction h with
 | nil i k _ => exact .nil i k
 | cons i k p m hf hm ih =>
  obtain ⟨⟨g1, g2, g3, g4, g5, _⟩, _⟩ := hf
  exact .cons i k p m g1 g2 g3 g4 g5 ih
def before : List (Nat × Nat) → List (Nat × Nat) → Bool
 | p :: m, q :: n => if p.1 ≠ q.1 then decide (p.1 < q.1) else if p.2 ≠ q.2 then decide (p.2 < q.2) else before m n
 | _, _ => false
theorem before_cons (p q : Nat × Nat) (m n : List (Nat × Nat)) : before (p :: m) (q :: n) = (decide (lexLt p q) || (decide (p = q) && before m n)) := by
 obtain ⟨p1, p2⟩ := p
 obtain ⟨q1, q2⟩ := q
 simp only [before, lexLt, Prod.mk.injEq]
 by_cases h1 : p1 = q1
 ·subst h1
  by_cases h2 : p2 = q2
  ·subst h2
   simp
  ·simp [h2]
 ·simp [h1]
theorem Greedy.first {a b : List α} {i k : Nat} {m : List (Nat × Nat)} (h : Greedy a b i k m) : ∀ n : List (Nat × Nat), Match a b i k n → n.length = m.length → before n m = false := by
 induction h with
 | nil i k _ =>
  intro n _ hl
  have : n = [] := List.eq_nil_of_length_eq_zero hl
  subst this
  rfl
 | cons i k p m hf hm ih =>
  intro n hn hl
  cases hn with
  | nil => simp at hl
  | cons _ _ q n h1 h2 h3 h4 he hn =>
   simp only [List.length_cons] at hl
   have hq : Good a b i k q.1 q.2 := by
    refine ⟨h1, h2, h3, h4, he, ?_⟩
    have k1 := LL_pair a b h1 h2 h3 h4 he
    have k2 := hn.length_le
    have k3 := hm.length
    have k4 : LL a b (p.1 + 1) (p.2 + 1) + 1 = LL a b i k := by
     obtain ⟨⟨_, _, _, _, _, g6⟩, _⟩ := hf
     exact g6
    omega
   have hlt := hf.2 q hq
   rw [before_cons, decide_eq_false hlt, Bool.false_or]
   by_cases e : q = p
   ·subst e
    rw [ih n hn (by omega), Bool.and_false]
   ·rw [decide_eq_false e, Bool.false_and]
def betterP (m n : List (Nat × Nat)) : List (Nat × Nat) := if n.length > m.length then n else if n.length = m.length ∧ before n m = true then n else m
theorem before_irrefl : ∀ m : List (Nat × Nat), before m m = false
 | [] => rfl
 | p :: m => by
  rw [before_cons, before_irrefl m]
  simp [lexLt]
theorem Greedy.step_ne {a b : List α} {i k : Nat} (h1 : i < a.length) (h2 : k < b.length) (hne : a[i] ≠ b[k]) {m n : List (Nat × Nat)} (hm : Greedy a b (i + 1) k m) (hn : Greedy a b i (k + 1) n) : Greedy a b i k (betterP m n) := by
 have hs := LL_step a b i k h1 h2
 rw [if_neg hne] at hs
 have lm := hm.length
 have ln := hn.length
 have down : ∀ q : Nat × Nat, Good a b i k q.1 q.2 → (LL a b (i + 1) k = LL a b i k ∧ Good a b (i + 1) k q.1 q.2) ∨ (LL a b i (k + 1) = LL a b i k ∧ Good a b i (k + 1) q.1 q.2) := by
  rintro q ⟨g1, g2, g3, g4, g5, g6⟩
  by_cases hi : q.1 = i
  ·have hk : q.2 ≠ k := by
    intro hk
    apply hne
    have : a[q.1] = b[q.2] := g5
    simpa [hi, hk] using this
   right
   have := LL_pair a b (i := i) (k := k + 1) g1 (by omega) g3 g4 g5
   have e : LL a b i (k + 1) = LL a b i k := by omega
   exact ⟨e, g1, by omega, g3, g4, g5, by omega⟩
  ·left
   have := LL_pair a b (i := i + 1) (k := k) (by omega) g2 g3 g4 g5
   have e : LL a b (i + 1) k = LL a b i k := by omega
   exact ⟨e, by omega, g2, g3, g4, g5, by omega⟩
 have upm : ∀ q : Nat × Nat, LL a b (i + 1) k = LL a b i k → Good a b (i + 1) k q.1 q.2 → Good a b i k q.1 q.2 := by
  rintro q e ⟨g1, g2, g3, g4, g5, g6⟩
  exact ⟨by omega, g2, g3, g4, g5, by omega⟩
 have upn : ∀ q : Nat × Nat, LL a b i (k + 1) = LL a b i k → Good a b i (k + 1) q.1 q.2 → Good a b i k q.1 q.2 := by
  rintro q e ⟨g1, g2, g3, g4, g5, g6⟩
  exact ⟨g1, by omega, g3, g4, g5, by omega⟩
 unfold betterP
 by_cases c1 : n.length > m.length
 ·rw [if_pos c1]
  cases hn with
  | nil => simp at c1
  | cons _ _ q n hf hn =>
   refine .cons i k q n ⟨upn q (by omega) hf.1, fun r hr => ?_⟩ hn
   rcases down r hr with ⟨e, _⟩ | ⟨_, hr⟩
   ·omega
   ·exact hf.2 r hr
 ·rw [if_neg c1]
  by_cases c2 : n.length = m.length
  ·cases hm with
   | nil _ _ h0 =>
    have : n = [] := List.eq_nil_of_length_eq_zero c2
    subst this
    simp only [before, Bool.false_eq_true, and_false, if_false]
    exact .nil i k (by omega)
   | cons _ _ p m hfm hm' =>
    cases hn with
    | nil => simp at c2
    | cons _ _ q n hfn hn' =>
     rw [before_cons]
     have em : LL a b (i + 1) k = LL a b i k := by omega
     have en : LL a b i (k + 1) = LL a b i k := by omega
     by_cases hlt : lexLt q p
     ·rw [if_pos ⟨c2, by simp [hlt]⟩]
      refine .cons i k q n ⟨upn q en hfn.1, fun r hr hrq => ?_⟩ hn'
      rcases down r hr with ⟨_, hr⟩ | ⟨_, hr⟩
      ·refine hfm.2 r hr ?_
       simp only [lexLt] at hlt hrq ⊢
       omega
      ·exact hfn.2 r hr hrq
     ·have first : First a b i k p := by
       refine ⟨upm p em hfm.1, fun r hr hrp => ?_⟩
       rcases down r hr with ⟨_, hr⟩ | ⟨_, hr⟩
       ·exact hfm.2 r hr hrp
       ·have := hfn.2 r hr
        apply this
        simp only [lexLt] at hlt hrp ⊢
        omega
      by_cases e : q = p
      ·subst e
       have : n = m := Greedy.uniq hn' hm'
       subst this
       rw [before_irrefl]
       simp only [hlt, decide_false, Bool.and_false, Bool.or_false, Bool.false_eq_true, and_false, if_false]
       exact .cons i k q n first hm'
      ·rw [if_neg (by simp [hlt, e])]
       exact .cons i k p m first hm'
  ·rw [if_neg (fun h => c2 h.1)]
   cases hm with
   | nil _ _ h0 =>
    simp only [List.length_nil] at c1 c2
    omega
   | cons _ _ p m hf hm' =>
    refine .cons i k p m ⟨upm p (by omega) hf.1, fun r hr => ?_⟩ hm'
    rcases down r hr with ⟨_, hr⟩ | ⟨e, _⟩
    ·exact hf.2 r hr
    ·omega
theorem Greedy.step_eq {a b : List α} {i k : Nat} (h1 : i < a.length) (h2 : k < b.length) (he : a[i] = b[k]) {m : List (Nat × Nat)} (hm : Greedy a b (i + 1) (k + 1) m) : Greedy a b i k ((i, k) :: m) := by
 have hs := LL_step a b i k h1 h2
 rw [if_pos he] at hs
 refine .cons i k (i, k) m ⟨⟨Nat.le_refl _, Nat.le_refl _, h1, h2, he, hs.symm⟩, ?_⟩ hm
 rintro q ⟨g1, g2, _⟩ hq
 simp only [lexLt] at hq
 omega
theorem Greedy.head_ge {a b : List α} {i k : Nat} {p : Nat × Nat} {m : List (Nat × Nat)} (h : Greedy a b i k (p :: m)) : i ≤ p.1 ∧ k ≤ p.2 := by
 cases h with
 | cons _ _ _ _ hf _ => exact ⟨hf.1.1, hf.1.2.1⟩
theorem Greedy.step_all {a b : List α} {i k : Nat} (h1 : i < a.length) (h2 : k < b.length) {m n c : List (Nat × Nat)} (hm : Greedy a b (i + 1) k m) (hn : Greedy a b i (k + 1) n) (hc : Greedy a b (i + 1) (k + 1) c) :
  Greedy a b i k (if a[i] = b[k] then betterP (betterP m n) ((i, k) :: c) else betterP m n) := by
 by_cases he : a[i] = b[k]
 ·rw [if_pos he]
  have hg := Greedy.step_eq h1 h2 he hc
  have lg := hg.length
  have lm := hm.length
  have ln := hn.length
  have l1 : LL a b (i + 1) k ≤ LL a b i k := LL_mono a b (Nat.le_succ i) (Nat.le_refl k)
  have l2 : LL a b i (k + 1) ≤ LL a b i k := LL_mono a b (Nat.le_refl i) (Nat.le_succ k)
  have key : betterP (betterP m n) ((i, k) :: c) = (i, k) :: c := by
   have hb : (betterP m n = m ∨ betterP m n = n) := by
    unfold betterP
    split
    ·exact .inr rfl
    ·split
     ·exact .inr rfl
     ·exact .inl rfl
   have later : ∀ x : List (Nat × Nat), x.length ≤ ((i, k) :: c).length → (∀ p y, x = p :: y → i ≤ p.1 ∧ k ≤ p.2 ∧ p ≠ (i, k)) → betterP x ((i, k) :: c) = (i, k) :: c := by
    intro x hx hf
    unfold betterP
    by_cases c1 : ((i, k) :: c).length > x.length
    ·rw [if_pos c1]
    ·rw [if_neg c1]
     cases x with
     | nil => simp at c1
     | cons p y =>
      have := hf p y rfl
      rw [if_pos]
      refine ⟨by omega, ?_⟩
      rw [before_cons]
      obtain ⟨p1, p2⟩ := p
      simp only [ne_eq, Prod.mk.injEq, not_and] at this
      have hl : lexLt (i, k) (p1, p2) := by
       simp only [lexLt]
       omega
      simp [hl]
   rcases hb with hb | hb
   ·rw [hb]
    refine later m (by omega) (fun p y e => ?_)
    subst e
    have := hm.head_ge
    refine ⟨by omega, this.2, fun e => ?_⟩
    rw [e] at this
    simp only at this
    omega
   ·rw [hb]
    refine later n (by omega) (fun p y e => ?_)
    subst e
    have := hn.head_ge
    refine ⟨this.1, by omega, fun e => ?_⟩
    rw [e] at this
    simp only at this
    omega
  rw [key]
  exact hg
 ·rw [if_neg he]
  exact Greedy.step_ne h1 h2 he hm hn
end
end Go.Proofs.Ytahpbpacjciddaa.Pr
end
section
namespace Go.Proofs.Ytahpbpacjciddaa.Pr
open Go.RowKit Go.Proofs.YtahpbpacjciddaaW.PrintWords Go.Proofs.YtahpbpacjciddaaW.PrintLast Go.Proofs.YtahpbpacjciddaaW.PrintMore
set_option linter.unusedVariables false
set_option linter.unusedSimpArgs false
def tiny (l : List ByteArray) : Prop := ∀ s ∈ l, s.size ≤ 1000000000
theorem tiny.small {l : List ByteArray} (h : tiny l) : small l := fun s hs => by have := h s hs; omega
theorem tiny.take {l : List ByteArray} (h : tiny l) (i : Nat) : tiny (l.take i) := fun s hs => h s (List.mem_of_mem_take hs)
theorem tiny.drop {l : List ByteArray} (h : tiny l) (i : Nat) : tiny (l.drop i) := fun s hs => h s (List.mem_of_mem_drop hs)
theorem tiny.append {l m : List ByteArray} (h : tiny l) (k : tiny m) : tiny (l ++ m) := fun s hs => (List.mem_append.1 hs).elim (h s) (k s)
theorem bytesIn_tiny (l : List ByteArray) (h : tiny l) : bytesIn l ≤ l.length * 1000000000 := by
 induction l with
 | nil => simp [bytesIn]
 | cons s l ih =>
  have h1 := h s (by simp)
  have h2 := ih (fun x hx => h x (by simp [hx]))
  simp only [bytesIn, List.map_cons, List.sum_cons, List.length_cons] at h2 ⊢
  omega
def fed (l : List ByteArray) : List Int := (l.map fun s => 10 :: bytesOf s).flatten
def textOf (l : List ByteArray) : List Int := (fed l).drop 1
theorem fed_length (l : List ByteArray) : (fed l).length = bytesIn l + l.length := by
 induction l with
 | nil => rfl
 | cons s l ih =>
  have e : fed (s :: l) = (10 :: bytesOf s) ++ fed l := by simp [fed]
  rw [e, List.length_append, ih, List.length_cons, bytesOf_length]
  simp only [bytesIn, List.map_cons, List.sum_cons, List.length_cons]
  omega
theorem textOf_length (l : List ByteArray) : (textOf l).length = bytesIn l + l.length - 1 := by
 rw [textOf, List.length_drop, fed_length]
theorem fed_take_succ (l : List ByteArray) (i : Nat) (h : i < l.length) : fed (l.take (i + 1)) = fed (l.take i) ++ 10 :: bytesOf l[i] := by
 unfold fed
 rw [take_succ_at l i h, List.map_append, List.flatten_append]
 simp
theorem textOf_take_succ (l : List ByteArray) (i : Nat) (h : i < l.length) : textOf (l.take (i + 1)) = if i = 0 then bytesOf l[i] else textOf (l.take i) ++ 10 :: bytesOf l[i] := by
 unfold textOf
 rw [fed_take_succ l i h]
 by_cases h0 : i = 0
 ·subst h0
  simp [fed]
 ·rw [if_neg h0]
  have := fed_length (l.take i)
  have h1 : (l.take i).length = i := by rw [List.length_take]; omega
  rw [List.drop_append_of_le_length (by omega)]
end Go.Proofs.Ytahpbpacjciddaa.Pr
end
section
namespace Go.Proofs.Ytahpbpacjciddaa.Pr
open Go.RowKit Go.Proofs.YtahpbpacjciddaaW.PrintWords Go.Proofs.YtahpbpacjciddaaW.PrintLast Go.Proofs.YtahpbpacjciddaaW.PrintMore
set_option linter.unusedVariables false
set_option linter.unusedSimpArgs false
theorem text_loop (l : List ByteArray) (hs : tiny l) (hl : l.length ≤ 100000) : ∀ (d i : Nat), i + d = l.length → Ev (fun k => sidingref13_Text.l0 k l (textOf (l.take i)) (i : Int)) (textOf l) := by
 intro d
 induction d with
 | zero =>
  intro i hi
  obtain rfl : i = l.length := by omega
  refine Ev.step (fun k => by rw [sidingref13_Text.l0]) (Ev.neg (by omega) ?_)
  rw [List.take_length]
  exact Ev.now _
 | succ d ih =>
  intro i hi
  have hlt : i < l.length := by omega
  have hb := bytesIn_tiny _ (hs.take (i + 1))
  have hb1 := bytesIn_take_succ l i hlt
  have hk : (l.take (i + 1)).length = i + 1 := by rw [List.length_take]; omega
  have hk' : (l.take i).length = i := by rw [List.length_take]; omega
  have ht := textOf_length (l.take i)
  refine Ev.step (fun k => by rw [sidingref13_Text.l0]) (Ev.pos (by omega) ?_)
  have h := ih (i + 1) (by omega)
  rw [textOf_take_succ l i hlt] at h
  rw [rdOf_at _ _ _ hlt, w64 (by omega)]
  by_cases h0 : i = 0
  ·subst h0
   rw [if_pos rfl] at h
   refine Ev.neg (by omega) (Ev.pos (by omega) (Ev.pos (by omega) ?_))
   simpa [textOf, fed] using h
  ·rw [if_neg h0] at h
   refine Ev.pos (by omega) (Ev.pos (by omega) (Ev.bs (Ev.pos (by omega) (Ev.pos ?_ ?_))))
   ·rw [List.length_append, List.length_singleton]
    omega
   ·simpa using h
theorem text_ev (l : List ByteArray) (hs : tiny l) (hl : l.length ≤ 100000) : Ev (fun k => sidingref13_Text.f k l) (textOf l) := by
 unfold sidingref13_Text.f
 have h := text_loop l hs hl l.length 0 (by omega)
 simpa [textOf, fed] using h
theorem feed_ev (l : List ByteArray) (hs : tiny l) : ref13_Feed.f l = some (l.any feedy) := by
 unfold ref13_Feed.f
 rw [if_pos]
 exact List.all_eq_true.2 fun s hm => decide_eq_true (by have := hs s hm; omega)
theorem rlines_ev (l : List ByteArray) (hs : tiny l) : Ev (fun k => sidingref13_Lines.f k l) (linesErr l) := by
 unfold sidingref13_Lines.f linesErr
 by_cases h1 : 60 < l.length
 ·rw [if_pos h1]
  exact Ev.pos (by omega) (Ev.step (fun k => by rw [sidingref13_Lines.j0]) (Ev.pos rfl (Ev.now _)))
 ·rw [if_neg h1]
  refine Ev.neg (by omega) (Ev.bd (text_ev l hs (by omega)) ?_)
  have ht := textOf_length l
  refine Ev.step (fun k => by rw [sidingref13_Lines.j0]) ?_
  by_cases h2 : 2001 < bytesIn l + l.length
  ·rw [if_pos h2]
   exact Ev.pos (decide_eq_true (by omega)) (Ev.now _)
  ·rw [if_neg h2]
   refine Ev.neg (by simp; omega) ?_
   by_cases h3 : l.length = 0
   ·rw [if_pos h3]
    exact Ev.pos (by omega) (Ev.now _)
   ·rw [if_neg h3]
    refine Ev.neg (by omega) (Ev.bc (feed_ev l hs) ?_)
    by_cases h4 : l.any feedy = true
    ·exact Ev.pos h4 (Ev.rt (if_pos h4).symm)
    ·exact Ev.neg h4 (Ev.rt (if_neg h4).symm)
def longOf (l : List ByteArray) : Bool := (l.take 201).any (fun s => decide (3000 < s.size)) || decide (200 < l.length)
theorem long_loop (l : List ByteArray) (hl : l.length ≤ 9000000000000000000) : ∀ (d i : Nat), i + d = 201 → Ev (fun k => sidingref13_Long.l0 k l (i : Int)) (((l.take 201).drop i).any (fun s => decide (3000 < s.size)) || decide (200 < l.length)) := by
 intro d
 induction d with
 | zero =>
  intro i hi
  obtain rfl : i = 201 := by omega
  have e : (l.take 201).drop 201 = [] := List.drop_eq_nil_of_le (by rw [List.length_take]; omega)
  rw [e]
  refine Ev.step (fun k => by rw [sidingref13_Long.l0]) ?_
  by_cases h : 201 < l.length
  ·refine Ev.pos (by omega) (Ev.step (fun k => by rw [sidingref13_Long.j1]) (Ev.neg (by decide) (Ev.rt ?_)))
   simp
   omega
  ·refine Ev.neg (by omega) (Ev.step (fun k => by rw [sidingref13_Long.j1]) (Ev.neg (by decide) (Ev.rt ?_)))
   simp
   omega
 | succ d ih =>
  intro i hi
  refine Ev.step (fun k => by rw [sidingref13_Long.l0]) ?_
  by_cases h : i < l.length
  ·have hlt : i < (l.take 201).length := by rw [List.length_take]; omega
   have e : (l.take 201).drop i = l[i] :: (l.take 201).drop (i + 1) := by rw [drop_at _ i hlt]; simp
   rw [e, List.any_cons]
   refine Ev.pos (by omega) (Ev.step (fun k => by rw [sidingref13_Long.j1]) (Ev.pos (by simp; omega) (Ev.pos (by omega) (Ev.pos (by omega) ?_))))
   rw [rdOf_at _ _ _ h, w64 (by omega)]
   by_cases h3 : 3000 < l[i].size
   ·refine Ev.pos (by omega) (Ev.rt ?_)
    simp [h3]
   ·refine Ev.neg (by omega) ?_
    have := ih (i + 1) (by omega)
    simpa [h3] using this
  ·have e : (l.take 201).drop i = [] := List.drop_eq_nil_of_le (by rw [List.length_take]; omega)
   rw [e]
   refine Ev.neg (by omega) (Ev.step (fun k => by rw [sidingref13_Long.j1]) (Ev.neg (by decide) (Ev.rt ?_)))
   simp
   omega
theorem long_ev (l : List ByteArray) (hl : l.length ≤ 9000000000000000000) : Ev (fun k => sidingref13_Long.f k l) (longOf l) := by
 unfold sidingref13_Long.f
 have h := long_loop l hl 201 0 (by omega)
 simpa [longOf] using h
theorem longOf_false {l : List ByteArray} (h : longOf l = false) : l.length ≤ 200 ∧ ∀ s ∈ l, s.size ≤ 3000 := by
 unfold longOf at h
 rw [Bool.or_eq_false_iff] at h
 obtain ⟨h1, h2⟩ := h
 have hl : l.length ≤ 200 := by simpa using h2
 rw [List.take_of_length_le (by omega), List.any_eq_false] at h1
 exact ⟨hl, fun s hs => by simpa using h1 s hs⟩
theorem longOf_tiny {l : List ByteArray} (h : longOf l = false) : l.length ≤ 200 ∧ tiny l := ⟨(longOf_false h).1, fun s hs => by have := (longOf_false h).2 s hs; omega⟩
theorem same_loop (a b : List ByteArray) (hl : a.length = b.length) (hb : a.length ≤ 9000000000000000000) : ∀ (d i : Nat), i + d = a.length → Ev (fun k => sidingref13_Same.l0 k a b (i : Int)) (decide (a.drop i = b.drop i)) := by
 intro d
 induction d with
 | zero =>
  intro i hi
  obtain rfl : i = a.length := by omega
  refine Ev.step (fun k => by rw [sidingref13_Same.l0]) (Ev.neg (by omega) (Ev.rt ?_))
  rw [List.drop_length, hl, List.drop_length]
  rfl
 | succ d ih =>
  intro i hi
  have h1 : i < a.length := by omega
  have h2 : i < b.length := by omega
  refine Ev.step (fun k => by rw [sidingref13_Same.l0]) (Ev.pos (by omega) (Ev.pos (by omega) (Ev.pos (by omega) ?_)))
  rw [rdOf_at _ _ _ h1, rdOf_at _ _ _ h2, w64 (by omega), drop_at a i h1, drop_at b i h2]
  by_cases h : a[i] = b[i]
  ·refine Ev.pos (toList_inj.2 h) ?_
   refine Ev.eq ?_ (ih (i + 1) (by omega))
   rw [Bool.eq_iff_iff, decide_eq_true_iff, decide_eq_true_iff, h, List.cons.injEq]
   simp
  ·refine Ev.neg (fun e => h (toList_inj.1 e)) (Ev.rt ?_)
   symm
   rw [decide_eq_false_iff_not, List.cons.injEq]
   exact fun e => h e.1
theorem same_ev (a b : List ByteArray) (hb : a.length ≤ 9000000000000000000) : Ev (fun k => sidingref13_Same.f k a b) (decide (a = b)) := by
 unfold sidingref13_Same.f
 by_cases h : a.length = b.length
 ·refine Ev.pos (by omega) ?_
  have := same_loop a b h hb a.length 0 (by omega)
  simpa using this
 ·refine Ev.neg (by omega) (Ev.rt ?_)
  symm
  rw [decide_eq_false_iff_not]
  intro e
  exact h (by rw [e])
end Go.Proofs.Ytahpbpacjciddaa.Pr
end
section
namespace Go.Proofs.Ytahpbpacjciddaa.Pr
open Go.RowKit Go.Proofs.YtahpbpacjciddaaW.PrintWords Go.Proofs.YtahpbpacjciddaaW.PrintLast Go.Proofs.YtahpbpacjciddaaW.PrintMore
set_option linter.unusedVariables false
set_option linter.unusedSimpArgs false
def bothErr (a b : List ByteArray) : Int := if linesErr a = 0 then linesErr b else linesErr a
theorem bothErr_zero {a b : List ByteArray} : bothErr a b = 0 ↔ linesErr a = 0 ∧ linesErr b = 0 := by
 unfold bothErr
 split
 ·rename_i h
  simp [h]
 ·rename_i h
  simp [h]
theorem lcheck_val (a b : List ByteArray) (ha : small a) (hb : small b) : lcs_check.f a b = some (bothErr a b) := by
 unfold lcs_check.f bothErr
 rw [join_val a ha, join_val b hb]
 by_cases h1 : linesErr a = 0
 ·rw [if_pos h1, if_pos h1]
  by_cases h2 : linesErr b = 0
  ·simp [h2]
  ·simp [h2]
 ·rw [if_neg h1, if_neg h1]
  simp [h1]
def tab (n m : Nat) (f : Nat → Nat → Int) : List (List Int) := (List.range n).map fun i => (List.range m).map fun k => f i k
theorem tab_length (n m : Nat) (f : Nat → Nat → Int) : (tab n m f).length = n := by simp [tab]
theorem tab_row (n m : Nat) (f : Nat → Nat → Int) (i : Nat) (h : i < n) : rd_Li64 (tab n m f) (i : Int) = (List.range m).map fun k => f i k := by
 simp [rd_Li64, tab, h]
theorem tab_row_length (n m : Nat) (f : Nat → Nat → Int) (i : Nat) (h : i < n) : (rd_Li64 (tab n m f) (i : Int)).length = m := by
 rw [tab_row n m f i h]
 simp
theorem tab_at (n m : Nat) (f : Nat → Nat → Int) (i k : Nat) (h : i < n) (h2 : k < m) : rd (rd_Li64 (tab n m f) (i : Int)) (k : Int) = f i k := by
 rw [tab_row n m f i h, rd_at _ k (by simpa using h2)]
 simp
theorem tab_congr (n m : Nat) {f g : Nat → Nat → Int} (h : ∀ i, i < n → ∀ k, k < m → f i k = g i k) : tab n m f = tab n m g := by
 unfold tab
 apply List.map_congr_left
 intro i hi
 apply List.map_congr_left
 intro k hk
 exact h i (List.mem_range.1 hi) k (List.mem_range.1 hk)
theorem range_map_set {β : Type} (m : Nat) (f : Nat → β) (k : Nat) (v : β) : ((List.range m).map f).set k v = (List.range m).map fun j => if j = k then v else f j := by
 apply List.ext_getElem
 ·simp
 ·intro j h1 h2
  have hj : j < m := by simpa using h1
  rw [List.getElem_set]
  simp only [List.getElem_map, List.getElem_range]
  by_cases e : k = j
  ·subst e
   simp
  ·rw [if_neg e, if_neg (fun h => e h.symm)]
theorem tab_set (n m : Nat) (f : Nat → Nat → Int) (i k : Nat) (h : i < n) (v : Int) : (tab n m f).set i ((rd_Li64 (tab n m f) (i : Int)).set k v) = tab n m fun j l => if j = i ∧ l = k then v else f j l := by
 rw [tab_row n m f i h, range_map_set]
 unfold tab
 rw [range_map_set]
 apply List.map_congr_left
 intro j hj
 by_cases e : j = i
 ·subst e
  simp
 ·simp [e]
def fillF (a b : List ByteArray) (i k j m : Nat) : Int := if i < j ∨ (i = j ∧ k ≤ m) then (LL a b j m : Int) else 0
theorem fill_row (a b : List ByteArray) (i : Nat) : fillF a b i 0 = fillF a b (i - 1 + 1) 0 ∨ i = 0 := by
 rcases Nat.eq_zero_or_pos i with h | h
 ·exact .inr h
 ·left
  rw [show i - 1 + 1 = i by omega]
theorem fill_end (a b : List ByteArray) (i : Nat) : fillF a b i b.length = fillF a b (i + 1) 0 := by
 funext j m
 unfold fillF
 by_cases h : i < j
 ·rw [if_pos (.inl h), if_pos]
  omega
 ·by_cases h2 : i = j ∧ b.length ≤ m
  ·rw [if_pos (.inr h2), if_neg (by omega), LL_end_right a b j m h2.2]
   rfl
  ·rw [if_neg (by omega), if_neg (by omega)]
theorem table_l2 (a b : List ByteArray) (ha : a.length ≤ 60) (hb : b.length ≤ 60) (i : Nat) (hi : i < a.length) (r : List (List Int))
  (hnext : Ev (fun k => lcs_table.l1 k a b (tab (a.length + 1) (b.length + 1) (fillF a b i 0)) ((i : Int) - 1)) r) : ∀ k, k ≤ b.length →
  Ev (fun n => lcs_table.l2 n a b (tab (a.length + 1) (b.length + 1) (fillF a b i k)) (i : Int) ((k : Int) - 1)) r := by
 intro k
 induction k with
 | zero =>
  intro _
  refine Ev.step (fun n => by rw [lcs_table.l2]) ?_
  refine Ev.neg (by omega) ?_
  rw [w64 (by omega)]
  exact hnext
 | succ k ih =>
  intro hk
  have h2 : k < b.length := by omega
  have e0 : ((k + 1 : Nat) : Int) - 1 = (k : Int) := by omega
  rw [e0]
  have hT := tab_length (a.length + 1) (b.length + 1) (fillF a b i (k + 1))
  have hr1 := tab_row_length (a.length + 1) (b.length + 1) (fillF a b i (k + 1)) (i + 1) (by omega)
  have hr0 := tab_row_length (a.length + 1) (b.length + 1) (fillF a b i (k + 1)) i (by omega)
  have ci : ((i : Int) + 1) = ((i + 1 : Nat) : Int) := by omega
  have ck : ((k : Int) + 1) = ((k + 1 : Nat) : Int) := by omega
  have hb1 := lcsLen_le_left (a.drop (i + 1)) (b.drop (k + 1))
  rw [List.length_drop] at hb1
  have hs := LL_step a b i k hi h2
  refine Ev.step (fun n => by rw [lcs_table.l2]) ?_
  rw [w64 (x := (i : Int) + 1) (by omega), w64 (x := (k : Int) + 1) (by omega), w64 (x := (k : Int) - 1) (by omega), rdOf_at _ a i hi, rdOf_at _ b k h2, ci, ck]
  refine Ev.pos (by omega) (Ev.pos (by omega) (Ev.pos (by omega) (Ev.pos (by omega) (Ev.pos (by omega) ?_))))
  rw [hT, hr1, hr0, tab_at _ _ _ _ _ (by omega) (by omega), tab_at _ _ _ _ _ (by omega) (by omega), tab_at _ _ _ _ _ (by omega) (by omega), Int.toNat_natCast, Int.toNat_natCast, tab_set _ _ _ _ _ (by omega), tab_set _ _ _ _ _ (by omega)]
  by_cases h : a[i] = b[k]
  ·refine Ev.pos (toList_inj.2 h) (Ev.pos (by omega) (Ev.pos (by omega) (Ev.pos (by omega) (Ev.pos (by omega) (Ev.pos (by omega) (Ev.pos (by omega) ?_))))))
   rw [if_pos h] at hs
   have hv : fillF a b i (k + 1) (i + 1) (k + 1) = (LL a b (i + 1) (k + 1) : Int) := by
    unfold fillF
    rw [if_pos (.inl (Nat.lt_succ_self i))]
   rw [hv, w64 (by unfold LL; omega)]
   have e : (tab (a.length + 1) (b.length + 1) fun j l => if j = i ∧ l = k then 1 + (LL a b (i + 1) (k + 1) : Int) else fillF a b i (k + 1) j l) = tab (a.length + 1) (b.length + 1) (fillF a b i k) := by
    apply tab_congr
    intro j hj l hl
    by_cases c : j = i ∧ l = k
    ·obtain ⟨rfl, rfl⟩ := c
     rw [if_pos ⟨rfl, rfl⟩]
     unfold fillF
     rw [if_pos (.inr ⟨rfl, Nat.le_refl _⟩), hs]
     omega
    ·rw [if_neg c]
     unfold fillF
     by_cases c2 : i < j ∨ (i = j ∧ k + 1 ≤ l)
     ·rw [if_pos c2, if_pos (by omega)]
     ·rw [if_neg c2, if_neg (by omega)]
   rw [e]
   exact ih (by omega)
  ·refine Ev.neg (fun e => h (toList_inj.1 e)) (Ev.pos (by omega) (Ev.pos (by omega) (Ev.pos (by omega) (Ev.pos (by omega) (Ev.pos (by omega) (Ev.pos (by omega) (Ev.pos (by omega) ?_)))))))
   rw [if_neg h] at hs
   have hv : fillF a b i (k + 1) (i + 1) k = (LL a b (i + 1) k : Int) := by
    unfold fillF
    rw [if_pos (.inl (Nat.lt_succ_self i))]
   have hv2 : fillF a b i (k + 1) i (k + 1) = (LL a b i (k + 1) : Int) := by
    unfold fillF
    rw [if_pos (.inr ⟨rfl, Nat.le_refl _⟩)]
   rw [hv, hv2, mx_eq]
   have e : (tab (a.length + 1) (b.length + 1) fun j l => if j = i ∧ l = k then ((max (LL a b (i + 1) k) (LL a b i (k + 1)) : Nat) : Int) else fillF a b i (k + 1) j l) = tab (a.length + 1) (b.length + 1) (fillF a b i k) := by
    apply tab_congr
    intro j hj l hl
    by_cases c : j = i ∧ l = k
    ·obtain ⟨rfl, rfl⟩ := c
     rw [if_pos ⟨rfl, rfl⟩]
     unfold fillF
     rw [if_pos (.inr ⟨rfl, Nat.le_refl _⟩), hs]
    ·rw [if_neg c]
     unfold fillF
     by_cases c2 : i < j ∨ (i = j ∧ k + 1 ≤ l)
     ·rw [if_pos c2, if_pos (by omega)]
     ·rw [if_neg c2, if_neg (by omega)]
   rw [e]
   exact ih (by omega)
def tableOf (a b : List ByteArray) : List (List Int) := tab (a.length + 1) (b.length + 1) fun i k => (LL a b i k : Int)
theorem fill_all (a b : List ByteArray) : tab (a.length + 1) (b.length + 1) (fillF a b 0 0) = tableOf a b := by
 apply tab_congr
 intro i _ k _
 unfold fillF
 rw [if_pos (by omega)]
theorem table_l1 (a b : List ByteArray) (ha : a.length ≤ 60) (hb : b.length ≤ 60) : ∀ n, n ≤ a.length → Ev (fun k => lcs_table.l1 k a b (tab (a.length + 1) (b.length + 1) (fillF a b n 0)) ((n : Int) - 1)) (tableOf a b) := by
 intro n
 induction n with
 | zero =>
  intro _
  refine Ev.step (fun k => by rw [lcs_table.l1]) ?_
  exact Ev.neg (by omega) (Ev.rt (fill_all a b))
 | succ n ih =>
  intro hn
  have e0 : ((n + 1 : Nat) : Int) - 1 = (n : Int) := by omega
  rw [e0]
  refine Ev.step (fun k => by rw [lcs_table.l1]) ?_
  refine Ev.pos (by omega) ?_
  rw [w64 (by omega), ← fill_end a b n]
  exact table_l2 a b ha hb n (by omega) (tableOf a b) (ih (by omega)) b.length (Nat.le_refl _)
theorem table_l0 (a b : List ByteArray) (ha : a.length ≤ 60) (hb : b.length ≤ 60) : ∀ (d i : Nat), i + d = a.length + 1 →
  Ev (fun k => lcs_table.l0 k a b (List.replicate i (List.replicate (b.length + 1) 0) ++ List.replicate d []) ((a.length + 1 : Nat) : Int) (i : Int)) (tableOf a b) := by
 intro d
 induction d with
 | zero =>
  intro i hi
  obtain rfl : i = a.length + 1 := by omega
  refine Ev.step (fun k => by rw [lcs_table.l0]) ?_
  refine Ev.neg (by omega) ?_
  rw [w64 (by omega)]
  have e : (List.replicate (a.length + 1) (List.replicate (b.length + 1) (0 : Int)) ++ List.replicate 0 []) = tab (a.length + 1) (b.length + 1) (fillF a b a.length 0) := by
   have z : tab (a.length + 1) (b.length + 1) (fillF a b a.length 0) = tab (a.length + 1) (b.length + 1) (fun _ _ => 0) := by
    apply tab_congr
    intro j hj l hl
    unfold fillF
    split
    ·rw [LL_end_left a b j l (by omega)]
     rfl
    ·rfl
   rw [z, List.replicate_zero, List.append_nil]
   show _ = (List.range (a.length + 1)).map (fun _ => (List.range (b.length + 1)).map (fun _ => (0 : Int)))
   rw [List.map_const', List.map_const', List.length_range, List.length_range]
  rw [e]
  exact table_l1 a b ha hb a.length (Nat.le_refl _)
 | succ d ih =>
  intro i hi
  refine Ev.step (fun k => by rw [lcs_table.l0]) ?_
  rw [w64 (x := (b.length : Int) + 1) (by omega), w64 (x := (i : Int) + 1) (by omega)]
  have hl : (List.replicate i (List.replicate (b.length + 1) (0 : Int)) ++ List.replicate (d + 1) []).length = a.length + 1 := by simp; omega
  rw [hl]
  refine Ev.pos (by omega) (Ev.pos (by omega) (Ev.pos (by omega) (Ev.pos (by omega) (Ev.pos (by omega) ?_))))
  have e1 : ((b.length : Int) + 1).toNat = b.length + 1 := by omega
  rw [e1, Int.toNat_natCast]
  have e : (List.replicate i (List.replicate (b.length + 1) (0 : Int)) ++ List.replicate (d + 1) []).set i (List.replicate (b.length + 1) 0) = List.replicate (i + 1) (List.replicate (b.length + 1) (0 : Int)) ++ List.replicate d [] := by
   generalize List.replicate (b.length + 1) (0 : Int) = z
   rw [List.set_append_right _ _ (by simp), List.length_replicate, Nat.sub_self, List.replicate_succ (n := d), List.set_cons_zero, List.replicate_succ' (n := i), List.append_assoc]
   rfl
  rw [e]
  have := ih (i + 1) (by omega)
  simpa using this
theorem table_ev (a b : List ByteArray) (ha : a.length ≤ 60) (hb : b.length ≤ 60) : Ev (fun k => lcs_table.f k a b) (tableOf a b) := by
 unfold lcs_table.f
 rw [w64 (x := (a.length : Int) + 1) (by omega)]
 have e1 : ((a.length : Int) + 1).toNat = a.length + 1 := by omega
 rw [e1]
 refine Ev.pos (by omega) (Ev.pos (by omega) (Ev.bs ?_))
 have := table_l0 a b ha hb (a.length + 1) 0 (by omega)
 rw [List.length_replicate]
 simpa using this
theorem tableOf_at (a b : List ByteArray) (i k : Nat) (h : i ≤ a.length) (h2 : k ≤ b.length) : rd (rd_Li64 (tableOf a b) (i : Int)) (k : Int) = (LL a b i k : Int) := tab_at _ _ _ i k (by omega) (by omega)
theorem tableOf_row (a b : List ByteArray) (i : Nat) (h : i ≤ a.length) : (rd_Li64 (tableOf a b) (i : Int)).length = b.length + 1 := tab_row_length _ _ _ i (by omega)
theorem tableOf_length (a b : List ByteArray) : (tableOf a b).length = a.length + 1 := tab_length _ _ _
theorem next_l1 (a b : List ByteArray) (ha : a.length ≤ 60) (hb : b.length ≤ 60) (i0 k0 : Nat) (hp : 0 < LL a b i0 k0) (p : Nat × Nat) (hf : First a b i0 k0 p) : ∀ (n i k : Nat), i0 ≤ i → i ≤ p.1 → k0 ≤ k → k ≤ b.length → (i = p.1 → k ≤ p.2) → (p.1 - i) * 1000 + (b.length - k) = n →
  Ev (fun m => lcs_next.l1 m a b (tableOf a b) (i : Int) (k0 : Int) (LL a b i0 k0 : Int) (k : Int)) ((p.1 : Int), (p.2 : Int)) := by
 obtain ⟨⟨g1, g2, g3, g4, g5, g6⟩, hmin⟩ := hf
 have hle := lcsLen_le_left (a.drop i0) (b.drop k0)
 rw [List.length_drop] at hle
 have hle' : LL a b i0 k0 ≤ 60 := by unfold LL; omega
 intro n
 induction n using Nat.strongRecOn with
 | _ n ih =>
  intro i k hi hip hk hkb hpk hn
  refine Ev.step (fun m => by rw [lcs_next.l1]) ?_
  by_cases hlt : k < b.length
  ·have hia : i < a.length := by omega
   have hnext : ∀ (hne : ¬ (i = p.1 ∧ k = p.2)), Ev (fun m => lcs_next.l1 m a b (tableOf a b) (i : Int) (k0 : Int) (LL a b i0 k0 : Int) (((k + 1 : Nat)) : Int)) ((p.1 : Int), (p.2 : Int)) := fun hne => ih ((p.1 - i) * 1000 + (b.length - (k + 1))) (by omega) i (k + 1) hi hip (by omega) (by omega) (by omega) rfl
   have ci : ((i : Int) + 1) = ((i + 1 : Nat) : Int) := by omega
   have ck : ((k : Int) + 1) = ((k + 1 : Nat) : Int) := by omega
   rw [w64 (x := (i : Int) + 1) (by omega), w64 (x := (k : Int) + 1) (by omega), w64 (x := (LL a b i0 k0 : Int) - 1) (by omega), rdOf_at _ a i hia, rdOf_at _ b k hlt, ci, ck, tableOf_length, tableOf_row a b (i + 1) (by omega), tableOf_at a b (i + 1) (k + 1) (by omega) (by omega)]
   refine Ev.pos (by omega) (Ev.pos (by omega) (Ev.pos (by omega) (Ev.pos (by omega) ?_)))
   by_cases he : a[i] = b[k]
   ·refine Ev.pos (toList_inj.2 he) (Ev.pos (by omega) (Ev.pos (by omega) (Ev.pos (by omega) (Ev.pos (by omega) ?_))))
    by_cases hw : LL a b (i + 1) (k + 1) + 1 = LL a b i0 k0
    ·have hg : Good a b i0 k0 i k := ⟨hi, hk, hia, hlt, he, hw⟩
     have := hmin (i, k) hg
     simp only [lexLt] at this
     have e1 : i = p.1 := by omega
     have e2 : k = p.2 := by omega
     refine Ev.pos (by omega) (Ev.rt ?_)
     rw [e1, e2]
    ·refine Ev.neg (by omega) (hnext ?_)
     rintro ⟨rfl, rfl⟩
     exact hw g6
   ·refine Ev.neg (fun e => he (toList_inj.1 e)) (hnext ?_)
    rintro ⟨rfl, rfl⟩
    exact he g5
  ·refine Ev.neg (by omega) ?_
   have hne : i ≠ p.1 := fun e => by have := hpk e; omega
   rw [w64 (by omega)]
   have ci : ((i : Int) + 1) = ((i + 1 : Nat) : Int) := by omega
   rw [ci]
   refine Ev.step (fun m => by rw [lcs_next.l0]) ?_
   exact ih ((p.1 - (i + 1)) * 1000 + (b.length - k0)) (by omega) (i + 1) k0 (by omega) (by omega) (Nat.le_refl _) (by omega) (fun e => g2) rfl
theorem next_ev (a b : List ByteArray) (ha : a.length ≤ 60) (hb : b.length ≤ 60) (i k : Nat) (hi : i ≤ a.length) (hk : k ≤ b.length) (p : Nat × Nat) (hf : First a b i k p) : Ev (fun m => lcs_next.f m a b (tableOf a b) (i : Int) (k : Int)) ((p.1 : Int), (p.2 : Int)) := by
 unfold lcs_next.f
 rw [tableOf_length, tableOf_row a b i hi, tableOf_at a b i k hi hk]
 refine Ev.pos (by omega) (Ev.pos (by omega) (Ev.pos (by omega) (Ev.pos (by omega) ?_)))
 refine Ev.step (fun m => by rw [lcs_next.l0]) ?_
 have h1 := hf.1.1
 have h2 := hf.1.2.1
 exact next_l1 a b ha hb i k hf.pos p hf _ i k (Nat.le_refl _) h1 (Nat.le_refl _) hk (fun _ => h2) rfl
def prOf (p : Nat × Nat) : S77 := ⟨(p.1 : Int), (p.2 : Int)⟩
theorem best_l0 (a b : List ByteArray) (ha : a.length ≤ 60) (hb : b.length ≤ 60) : ∀ (m : List (Nat × Nat)) (i k : Nat), Greedy a b i k m → i ≤ a.length → k ≤ b.length → ∀ acc : List S77, acc.length + m.length ≤ 100 →
  Ev (fun n => lcs_Best.l0 n a b (tableOf a b) acc (i : Int) (k : Int)) (acc ++ m.map prOf, (0 : Int)) := by
 intro m
 induction m with
 | nil =>
  intro i k hg hi hk acc _
  have h0 : LL a b i k = 0 := by
   cases hg with
   | nil _ _ h => exact h
  refine Ev.step (fun n => by rw [lcs_Best.l0]) ?_
  rw [tableOf_length, tableOf_row a b i hi, tableOf_at a b i k hi hk, h0]
  refine Ev.pos (by omega) (Ev.pos (by omega) (Ev.pos (by omega) (Ev.pos (by omega) (Ev.neg (by decide) (Ev.rt ?_)))))
  simp
 | cons p m ih =>
  intro i k hg hi hk acc hl
  cases hg with
  | cons _ _ _ _ hf hm =>
   obtain ⟨g1, g2, g3, g4, g5, g6⟩ := hf.1
   have hp := hf.pos
   refine Ev.step (fun n => by rw [lcs_Best.l0]) ?_
   rw [tableOf_length, tableOf_row a b i hi, tableOf_at a b i k hi hk]
   refine Ev.pos (by omega) (Ev.pos (by omega) (Ev.pos (by omega) (Ev.pos (by omega) (Ev.pos (by omega) (Ev.bd (next_ev a b ha hb i k hi hk p hf) (Ev.pos (by simp only [List.length_cons] at hl; omega) ?_))))))
   rw [w64 (x := (p.1 : Int) + 1) (by omega), w64 (x := (p.2 : Int) + 1) (by omega)]
   have := ih (p.1 + 1) (p.2 + 1) hm (by omega) (by omega) (acc ++ [prOf p]) (by simp only [List.length_append, List.length_cons, List.length_nil] at hl ⊢; omega)
   simpa [prOf] using this
noncomputable def bestOf (a b : List ByteArray) : List (Nat × Nat) := Classical.choose (Greedy.ex a b _ 0 0 rfl)
theorem bestOf_greedy (a b : List ByteArray) : Greedy a b 0 0 (bestOf a b) := (Classical.choose_spec (Greedy.ex a b _ 0 0 rfl)).1
theorem bestOf_length (a b : List ByteArray) : (bestOf a b).length = lcsLen a b := by
 have := (bestOf_greedy a b).length
 simpa [LL] using this
theorem best_ev (a b : List ByteArray) (ha : small a) (hb : small b) : Ev (fun n => lcs_Best.f n a b) (if bothErr a b = 0 then ((bestOf a b).map prOf, (0 : Int)) else (([] : List S77), bothErr a b)) := by
 unfold lcs_Best.f
 refine Ev.bc (lcheck_val a b ha hb) ?_
 by_cases h : bothErr a b = 0
 ·rw [if_pos h]
  obtain ⟨h1, h2⟩ := bothErr_zero.1 h
  obtain ⟨l1, _⟩ := linesErr_zero h1
  obtain ⟨l2, _⟩ := linesErr_zero h2
  refine Ev.pos h (Ev.bd (table_ev a b l1 l2) ?_)
  have hl := bestOf_length a b
  have hl2 := lcsLen_le_left a b
  have := best_l0 a b l1 l2 (bestOf a b) 0 0 (bestOf_greedy a b) (Nat.zero_le _) (Nat.zero_le _) [] (by simp only [List.length_nil]; omega)
  simpa using this
 ·exact Ev.neg h (Ev.rt (if_neg h).symm)
end Go.Proofs.Ytahpbpacjciddaa.Pr
end
section
namespace Go.Proofs.Ytahpbpacjciddaa.Pr
open Go.RowKit Go.Proofs.YtahpbpacjciddaaW.PrintWords Go.Proofs.YtahpbpacjciddaaW.PrintLast Go.Proofs.YtahpbpacjciddaaW.PrintMore
set_option linter.unusedVariables false
set_option linter.unusedSimpArgs false
def pieceL (a b : List ByteArray) (i k p q : Nat) : List S82 := if i < p ∨ k < q then [⟨(i : Int), (a.take p).drop i, (b.take q).drop k⟩] else []
def diffL (a b : List ByteArray) : Nat → Nat → List (Nat × Nat) → List S82
 | i, k, [] => pieceL a b i k a.length b.length
 | i, k, p :: m => pieceL a b i k p.1 p.2 ++ diffL a b (p.1 + 1) (p.2 + 1) m
theorem diffL_nil (a b : List ByteArray) (i k : Nat) : diffL a b i k [] = pieceL a b i k a.length b.length := rfl
theorem diffL_cons (a b : List ByteArray) (i k : Nat) (p : Nat × Nat) (m : List (Nat × Nat)) : diffL a b i k (p :: m) = pieceL a b i k p.1 p.2 ++ diffL a b (p.1 + 1) (p.2 + 1) m := rfl
theorem pieceL_pos {a b : List ByteArray} {i k p q : Nat} (h : i < p ∨ k < q) : pieceL a b i k p q = [⟨(i : Int), (a.take p).drop i, (b.take q).drop k⟩] := if_pos h
theorem pieceL_neg {a b : List ByteArray} {i k p q : Nat} (h : ¬ (i < p ∨ k < q)) : pieceL a b i k p q = [] := if_neg h
theorem seg_join (a : List ByteArray) {x y z : Nat} (hxy : x ≤ y) (hyz : y ≤ z) : (a.take y).drop x ++ (a.take z).drop y = (a.take z).drop x := by
 rw [List.drop_take, List.drop_take, List.drop_take]
 rw [show z - x = (y - x) + (z - y) by omega, List.take_add]
 congr 1
 rw [List.drop_drop]
 congr 2
 omega
def pt : List (Nat × Nat) → Nat → Option Nat
 | [], _ => none
 | p :: m, i => if p.1 = i then some p.2 else pt m i
theorem pt_lt {a b : List ByteArray} {i k : Nat} {m : List (Nat × Nat)} (h : Match a b i k m) : ∀ j, j < i → pt m j = none := by
 induction h with
 | nil => exact fun _ _ => rfl
 | cons i k p m h1 h2 h3 h4 he hm ih =>
  intro j hj
  unfold pt
  rw [if_neg (by omega)]
  exact ih j (by omega)
theorem pt_some {a b : List ByteArray} {i k : Nat} {m : List (Nat × Nat)} (h : Match a b i k m) : ∀ {j u}, pt m j = some u → i ≤ j ∧ k ≤ u ∧ ∃ (h1 : j < a.length) (h2 : u < b.length), a[j] = b[u] := by
 induction h with
 | nil => intro j u h; cases h
 | cons i k p m h1 h2 h3 h4 he hm ih =>
  intro j u h
  unfold pt at h
  by_cases e : p.1 = j
  ·rw [if_pos e] at h
   obtain rfl := Option.some.inj h
   subst e
   exact ⟨h1, h2, h3, h4, he⟩
  ·rw [if_neg e] at h
   have := ih h
   exact ⟨by omega, by omega, this.2.2⟩
theorem pt_mono {a b : List ByteArray} {i k : Nat} {m : List (Nat × Nat)} (h : Match a b i k m) : ∀ {j l u v}, pt m j = some u → pt m l = some v → j < l → u < v := by
 induction h with
 | nil => intro j l u v h; cases h
 | cons i k p m h1 h2 h3 h4 he hm ih =>
  intro j l u v hj hl hjl
  unfold pt at hj hl
  by_cases e : p.1 = j
  ·rw [if_pos e] at hj
   obtain rfl := Option.some.inj hj
   rw [if_neg (by omega)] at hl
   have := pt_some hm hl
   omega
  ·rw [if_neg e] at hj
   by_cases e2 : p.1 = l
   ·have := pt_some hm hj
    omega
   ·rw [if_neg e2] at hl
    exact ih hj hl hjl
def befAt (n nb : Nat) : Nat → Nat → List (Nat × Nat) → Nat → Bool
 | i, k, [], j => decide (j = i ∧ i = n ∧ k < nb)
 | i, k, p :: m, j => decide (j = i ∧ i = p.1 ∧ k < p.2) || befAt n nb (p.1 + 1) (p.2 + 1) m j
theorem befAt_lt {a b : List ByteArray} {i k : Nat} {m : List (Nat × Nat)} (n nb : Nat) (h : Match a b i k m) : ∀ j, j < i → befAt n nb i k m j = false := by
 induction h with
 | nil i k => exact fun j hj => decide_eq_false (by omega)
 | cons i k p m h1 h2 h3 h4 he hm ih =>
  intro j hj
  unfold befAt
  rw [decide_eq_false (by omega), ih j (by omega)]
  rfl
theorem befAt_next {a b : List ByteArray} {i k : Nat} {m : List (Nat × Nat)} (h : Match a b i k m) : ∀ {j u}, pt m j = some u → befAt a.length b.length i k m (j + 1) = match pt m (j + 1) with
  | some v => decide (u + 1 < v)
  | none => decide (j + 1 = a.length ∧ u + 1 < b.length) := by
 induction h with
 | nil i k => intro j u h; cases h
 | cons i k p m h1 h2 h3 h4 he hm ih =>
  intro j u hj
  unfold pt at hj
  by_cases e : p.1 = j
  ·rw [if_pos e] at hj
   obtain rfl := Option.some.inj hj
   subst e
   unfold befAt
   rw [decide_eq_false (by omega), Bool.false_or]
   have e2 : pt (p :: m) (p.1 + 1) = pt m (p.1 + 1) := by
    rw [pt, if_neg (by omega)]
   rw [e2]
   cases hm with
   | nil => simp [befAt, pt]
   | cons _ _ q m' g1 g2 g3 g4 ge gm =>
    unfold befAt pt
    rw [befAt_lt _ _ gm _ (by omega), Bool.or_false]
    by_cases e3 : q.1 = p.1 + 1
    ·rw [if_pos e3]
     simp only [Bool.decide_and, e3, decide_true, Bool.true_and]
    ·rw [if_neg e3, pt_lt gm _ (by omega)]
     simp only
     rw [decide_eq_false (by omega), decide_eq_false (by omega)]
  ·rw [if_neg e] at hj
   have hq := pt_some hm hj
   unfold befAt
   rw [decide_eq_false (by omega), Bool.false_or, ih hj]
   have e2 : pt (p :: m) (j + 1) = pt m (j + 1) := by
    rw [pt, if_neg (by omega)]
   rw [e2]
def partL (base : List ByteArray) (fr tt : Nat) : List S82 → List ByteArray → Nat → List ByteArray
 | [], out, at_ => out ++ (base.take tt).drop at_
 | h :: l, out, at_ => if h.f0 < (fr : Int) ∨ (tt : Int) < h.f0 + (h.f1.length : Int) then partL base fr tt l out at_
  else partL base fr tt l (out ++ (base.take h.f0.toNat).drop at_ ++ h.f2) (h.f0.toNat + h.f1.length)
theorem partL_skip (base : List ByteArray) (fr tt : Nat) (l : List S82) : ∀ (s : List S82) (out : List ByteArray) (at_ : Nat), (∀ h ∈ s, h.f0 < (fr : Int) ∨ (tt : Int) < h.f0 + (h.f1.length : Int)) → partL base fr tt (s ++ l) out at_ = partL base fr tt l out at_
 | [], _, _, _ => rfl
 | h :: s, out, at_, hs => by
  rw [List.cons_append, partL, if_pos (hs h List.mem_cons_self)]
  exact partL_skip base fr tt l s out at_ (fun x hx => hs x (List.mem_cons_of_mem _ hx))
theorem pieceL_mem {a b : List ByteArray} {i k p q : Nat} {h : S82} (hh : h ∈ pieceL a b i k p q) (hp : p ≤ a.length) (hip : i ≤ p) : h.f0 = (i : Int) ∧ (h.f1.length : Int) = (p : Int) - (i : Int) := by
 unfold pieceL at hh
 split at hh
 ·obtain rfl := List.mem_singleton.1 hh
  refine ⟨rfl, ?_⟩
  show (((a.take p).drop i).length : Int) = _
  rw [List.length_drop, List.length_take]
  omega
 ·cases hh
theorem diffL_far {a b : List ByteArray} {i k : Nat} {m : List (Nat × Nat)} (h : Match a b i k m) : i ≤ a.length → ∀ x ∈ diffL a b i k m, (i : Int) ≤ x.f0 := by
 induction h with
 | nil i k =>
  intro hi x hx
  have := pieceL_mem hx (Nat.le_refl _) hi
  omega
 | cons i k p m h1 h2 h3 h4 he hm ih =>
  intro hi x hx
  rw [diffL_cons] at hx
  rcases List.mem_append.1 hx with hx | hx
  ·have := pieceL_mem hx (by omega) h1
   omega
  ·have := ih (by omega) x hx
   omega
theorem partL_behind {a b : List ByteArray} {i k : Nat} {m : List (Nat × Nat)} (h : Match a b i k m) (hi : i ≤ a.length) (fr tt : Nat) (ht : tt < i) (out : List ByteArray) (at_ : Nat) : partL a fr tt (diffL a b i k m) out at_ = out ++ (a.take tt).drop at_ := by
 have := partL_skip a fr tt [] (diffL a b i k m) out at_ (fun x hx => by
  have := diffL_far h hi x hx
  omega)
 rwa [List.append_nil] at this
theorem piece_in (a b : List ByteArray) {fr tt i k p q : Nat} (hf : fr ≤ i) (hip : i ≤ p) (hkq : k ≤ q) (hpt : p ≤ tt) (hp : p ≤ a.length) (l : List S82) (out : List ByteArray) (at_ : Nat) (hat : at_ ≤ i) :
  ∃ out' at', partL a fr tt (pieceL a b i k p q ++ l) out at_ = partL a fr tt l out' at' ∧ at' ≤ p ∧ out' ++ (a.take p).drop at' = out ++ (a.take i).drop at_ ++ (b.take q).drop k := by
 by_cases h : i < p ∨ k < q
 ·rw [pieceL_pos h, List.singleton_append, partL]
  have hl : ((a.take p).drop i).length = p - i := by rw [List.length_drop, List.length_take]; omega
  refine ⟨out ++ (a.take i).drop at_ ++ (b.take q).drop k, p, ?_, Nat.le_refl _, ?_⟩
  ·rw [if_neg (by simp only [hl]; omega)]
   simp only [hl, Int.toNat_natCast]
   rw [show i + (p - i) = p by omega]
  ·rw [show (a.take p).drop p = [] from List.drop_eq_nil_of_le (by rw [List.length_take]; omega), List.append_nil]
 ·rw [pieceL_neg h, List.nil_append]
  obtain rfl : i = p := by omega
  obtain rfl : k = q := by omega
  refine ⟨out, at_, rfl, hat, ?_⟩
  rw [show (b.take k).drop k = [] from List.drop_eq_nil_of_le (by rw [List.length_take]; omega), List.append_nil]
theorem take_one_drop (a : List ByteArray) (p : Nat) (h : p < a.length) : (a.take (p + 1)).drop p = [a[p]] := by
 rw [List.drop_take, show p + 1 - p = 1 by omega, List.drop_eq_getElem_cons h]
 rfl
theorem partL_within {a b : List ByteArray} (fr tt q p0 : Nat) {i k : Nat} {m : List (Nat × Nat)} (h : Match a b i k m) : fr ≤ i → i ≤ tt → tt ≤ a.length → k ≤ b.length → (pt m tt = some q ∨ tt = a.length ∧ q = b.length) → p0 ≤ k →
  ∀ (out : List ByteArray) (at_ : Nat), at_ ≤ i → out ++ (a.take i).drop at_ = (b.take k).drop p0 → partL a fr tt (diffL a b i k m) out at_ = (b.take q).drop p0 := by
 induction h with
 | nil i k =>
  intro hf hit hta hkb hq hp0 out at_ hat hinv
  rcases hq with hq | ⟨rfl, rfl⟩
  ·cases hq
  ·obtain ⟨out', at', h1, h2, h3⟩ := piece_in a b (tt := a.length) hf hit hkb (Nat.le_refl _) (Nat.le_refl _) [] out at_ hat
   rw [List.append_nil] at h1
   rw [diffL_nil, h1, partL, h3, hinv]
   exact seg_join b hp0 hkb
 | cons i k p m g1 g2 g3 g4 ge hm ih =>
  intro hf hit hta hkb hq hp0 out at_ hat hinv
  rw [diffL_cons]
  by_cases hpt : p.1 < tt
  ·obtain ⟨out', at', h1, h2, h3⟩ := piece_in a b (tt := tt) hf g1 g2 (by omega) (by omega) (diffL a b (p.1 + 1) (p.2 + 1) m) out at_ hat
   rw [h1]
   refine ih (by omega) (by omega) hta (by omega) ?_ (by omega) out' at' (by omega) ?_
   ·rcases hq with hq | hq
    ·rw [pt, if_neg (by omega)] at hq
     exact .inl hq
    ·exact .inr hq
   ·rw [← seg_join a h2 (Nat.le_succ p.1), ← List.append_assoc, h3, hinv, seg_join b hp0 g2, take_one_drop a p.1 g3, ge, ← take_one_drop b p.2 g4, seg_join b (by omega) (Nat.le_succ p.2)]
  ·have hpe : p.1 = tt := by
    rcases hq with hq | ⟨hq, _⟩
    ·by_cases e : p.1 = tt
     ·exact e
     ·rw [pt, if_neg e] at hq
      have := pt_some hm hq
      omega
    ·omega
   have hqe : q = p.2 := by
    rcases hq with hq | ⟨hq, _⟩
    ·rw [pt, if_pos hpe] at hq
     exact (Option.some.inj hq).symm
    ·omega
   obtain ⟨out', at', h1, h2, h3⟩ := piece_in a b (tt := tt) hf g1 g2 (by omega) (by omega) (diffL a b (p.1 + 1) (p.2 + 1) m) out at_ hat
   rw [h1, partL_behind hm (by omega) _ _ (by omega), ← hpe, h3, hinv, hqe]
   exact seg_join b hp0 g2
theorem partL_part {a b : List ByteArray} (fr tt p0 q : Nat) {i k : Nat} {m : List (Nat × Nat)} (h : Match a b i k m) : i ≤ fr → fr ≤ tt → tt ≤ a.length → k ≤ b.length → (pt m tt = some q ∨ tt = a.length ∧ q = b.length) → (i = fr ∧ k = p0 ∨ ∃ f u, fr = f + 1 ∧ p0 = u + 1 ∧ pt m f = some u) →
  partL a fr tt (diffL a b i k m) [] fr = (b.take q).drop p0 := by
 induction h with
 | nil i k =>
  intro hif hft hta hkb hq hp
  rcases hp with ⟨rfl, rfl⟩ | ⟨f, u, _, _, h⟩
  ·refine partL_within i tt q k (.nil i k) (Nat.le_refl _) hft hta hkb hq (Nat.le_refl _) [] i (Nat.le_refl _) ?_
   rw [List.nil_append, List.drop_eq_nil_of_le (by rw [List.length_take]; omega), List.drop_eq_nil_of_le (by rw [List.length_take]; omega)]
  ·cases h
 | cons i k p m g1 g2 g3 g4 ge hm ih =>
  intro hif hft hta hkb hq hp
  rcases hp with ⟨rfl, rfl⟩ | ⟨f, u, rfl, rfl, hf⟩
  ·refine partL_within i tt q k (.cons i k p m g1 g2 g3 g4 ge hm) (Nat.le_refl _) hft hta hkb hq (Nat.le_refl _) [] i (Nat.le_refl _) ?_
   rw [List.nil_append, List.drop_eq_nil_of_le (by rw [List.length_take]; omega), List.drop_eq_nil_of_le (by rw [List.length_take]; omega)]
  ·rw [diffL_cons, partL_skip _ _ _ _ _ _ _ (fun x hx => by
    have := pieceL_mem hx (by omega) g1
    have h2 : p.1 ≤ f := by
     rw [pt] at hf
     split at hf
     ·omega
     ·have := pt_some hm hf
      omega
    omega)]
   have hq2 : pt m tt = some q ∨ tt = a.length ∧ q = b.length := by
    rcases hq with hq | hq
    ·have h2 : p.1 ≤ f := by
      rw [pt] at hf
      split at hf
      ·omega
      ·have := pt_some hm hf
       omega
     rw [pt, if_neg (by omega)] at hq
     exact .inl hq
    ·exact .inr hq
   rw [pt] at hf
   split at hf
   ·rename_i e
    obtain rfl := Option.some.inj hf
    exact ih (by omega) hft hta (by omega) hq2 (.inl ⟨by omega, rfl⟩)
   ·have := pt_some hm hf
    exact ih (by omega) hft hta (by omega) hq2 (.inr ⟨f, u, rfl, rfl, hf⟩)
end Go.Proofs.Ytahpbpacjciddaa.Pr
end
section
namespace Go.Proofs.Ytahpbpacjciddaa.Pr
open Go.RowKit Go.Proofs.YtahpbpacjciddaaW.PrintWords Go.Proofs.YtahpbpacjciddaaW.PrintLast Go.Proofs.YtahpbpacjciddaaW.PrintMore
set_option linter.unusedVariables false
set_option linter.unusedSimpArgs false
def pn : Option Nat → Int
 | some u => (u : Int)
 | none => -1
theorem pairsGo_at {a b : List ByteArray} {i k : Nat} {m : List (Nat × Nat)} (h : Match a b i k m) : ∀ (out : List Int) (j : Nat), j < out.length → (pairsGo (m.map prOf) out).getD j 0 = match pt m j with
  | some u => (u : Int)
  | none => out.getD j 0 := by
 induction h with
 | nil => intro out j _; rfl
 | cons i k p m h1 h2 h3 h4 he hm ih =>
  intro out j hj
  rw [List.map_cons, pairsGo, ih _ j (by rw [List.length_set]; exact hj)]
  have e0 : ((prOf p).f0).toNat = p.1 := by simp [prOf]
  have e1 : (prOf p).f1 = (p.2 : Int) := rfl
  rw [e0, e1, pt]
  by_cases e : p.1 = j
  ·rw [if_pos e, pt_lt hm j (by omega)]
   subst e
   simp [hj]
  ·rw [if_neg e]
   cases pt m j with
   | some u => rfl
   | none =>
    simp only
    rw [List.getD_eq_getElem?_getD, List.getElem?_set_ne e, ← List.getD_eq_getElem?_getD]
def pxs (n : Nat) (m : List (Nat × Nat)) : List Int := pairsOf n (m.map prOf)
theorem pxs_length (n : Nat) (m : List (Nat × Nat)) : (pxs n m).length = n := by
 unfold pxs pairsOf
 rw [pairsGo_length, List.length_replicate]
theorem pxs_at {a b : List ByteArray} {m : List (Nat × Nat)} (h : Match a b 0 0 m) (j : Nat) (hj : j < a.length) : (pxs a.length m).getD j 0 = pn (pt m j) := by
 unfold pxs pairsOf
 rw [pairsGo_at h _ j (by rw [List.length_replicate]; exact hj)]
 cases pt m j with
 | some u => rfl
 | none => simp [pn, List.getElem?_replicate, hj]
theorem pxs_fits {a b : List ByteArray} {m : List (Nat × Nat)} (h : Match a b 0 0 m) (hb : b.length ≤ 1000000) : mfits a.length (pxs a.length m) = true := by
 unfold mfits
 rw [Bool.and_eq_true, decide_eq_true_eq]
 refine ⟨pxs_length _ _, List.all_eq_true.2 fun v hv => ?_⟩
 obtain ⟨j, hj, rfl⟩ := List.getElem_of_mem hv
 have hj' : j < a.length := by rw [← pxs_length a.length m]; exact hj
 have h2 := pxs_at h j hj'
 rw [List.getD_eq_getElem?_getD, List.getElem?_eq_getElem hj, Option.getD_some] at h2
 rw [h2]
 cases hp : pt m j with
 | none => simp [pn]
 | some u =>
  obtain ⟨_, _, _, hu, _⟩ := pt_some h hp
  show (decide (-1 ≤ (u : Int)) && decide ((u : Int) ≤ 1000000)) = true
  rw [decide_eq_true (by omega), decide_eq_true (by omega)]
  rfl
theorem pairsIn_of {a b : List ByteArray} {i k : Nat} {m : List (Nat × Nat)} (h : Match a b i k m) : pairsIn a.length (m.map prOf) = true := by
 induction h with
 | nil => rfl
 | cons i k p m h1 h2 h3 h4 he hm ih =>
  unfold pairsIn at ih ⊢
  rw [List.map_cons, List.all_cons, ih, Bool.and_true]
  show (decide (0 ≤ (p.1 : Int)) && decide ((p.1 : Int) < (a.length : Int))) = true
  rw [decide_eq_true (by omega), decide_eq_true (by omega)]
  rfl
theorem pairs_ev (a b : List ByteArray) (ha : small a) (hb : small b) : Ev (fun k => merge_pairs.f k a b) (if bothErr a b = 0 then (pxs a.length (bestOf a b), (0 : Int)) else (([] : List Int), bothErr a b)) := by
 unfold merge_pairs.f
 refine Ev.bd (best_ev a b ha hb) (Ev.ke ?_)
 unfold merge_pairs.g
 by_cases h : bothErr a b = 0
 ·rw [if_pos h, if_pos h, if_pos rfl]
  have hz := bothErr_zero.1 h
  obtain ⟨l0, _, l1, _⟩ := linesErr_zero hz.1
  have hlen : (bestOf a b).length ≤ a.length := by rw [bestOf_length]; exact lcsLen_le_left a b
  rw [if_pos]
  ·rfl
  ·rw [pairsIn_of (bestOf_greedy a b).match, List.length_map, decide_eq_true l1, decide_eq_true (show a.length ≤ 1000000 by omega), decide_eq_true (show (bestOf a b).length ≤ 1000000 by omega)]
   rfl
 ·rw [if_neg h, if_neg h, if_neg h]
def gapP (a b c : List ByteArray) (x y : Nat × Nat × Nat) : List S34 := if y = x then [] else [mkPiece (segL a x.1 y.1) (segL b x.2.1 y.2.1) (segL c x.2.2 y.2.2)]
theorem cutAt_gap (a b c : List ByteArray) (x y : Nat × Nat × Nat) (out : List S34) (h : x.1 ≤ y.1 ∧ y.1 ≤ a.length ∧ x.2.1 ≤ y.2.1 ∧ y.2.1 ≤ b.length ∧ x.2.2 ≤ y.2.2 ∧ y.2.2 ≤ c.length) : cutAt a b c x y out = some (out ++ gapP a b c x y) := by
 unfold cutAt gapP
 by_cases e : y = x
 ·rw [if_pos e, if_pos e, List.append_nil]
 ·rw [if_neg e, if_neg e, if_pos h]
theorem ex_next (P : Nat → Bool) : ∀ (d i n : Nat), i + d = n → ∃ t, i ≤ t ∧ t ≤ n ∧ (∀ j, i ≤ j → j < t → P j = false) ∧ (t = n ∨ t < n ∧ P t = true)
 | 0, i, n, h => ⟨i, Nat.le_refl _, by omega, fun j h1 h2 => by omega, .inl (by omega)⟩
 | d + 1, i, n, h => by
  cases hp : P i with
  | true => exact ⟨i, Nat.le_refl _, by omega, fun j h1 h2 => by omega, .inr ⟨by omega, hp⟩⟩
  | false =>
   obtain ⟨t, h1, h2, h3, h4⟩ := ex_next P d (i + 1) n (by omega)
   refine ⟨t, by omega, h2, fun j hj1 hj2 => ?_, h4⟩
   by_cases e : j = i
   ·rw [e]; exact hp
   ·exact h3 j (by omega) hj2
theorem mgo_skip (a b c : List ByteArray) (x y : List Int) (at_ : Nat × Nat × Nat) (out : List S34) : ∀ (d f i : Nat), i + d ≤ a.length → (∀ j, i ≤ j → j < i + d → mboth x y j = false) → mgo a b c x y (f + d) i at_ out = mgo a b c x y f (i + d) at_ out
 | 0, _, _, _, _ => rfl
 | d + 1, f, i, h, hj => by
  rw [show f + (d + 1) = (f + d) + 1 by omega, mgo, if_pos (by omega), hj i (Nat.le_refl _) (by omega), if_neg Bool.false_ne_true, mgo_skip a b c x y at_ out d f (i + 1) (by omega) (fun j h1 h2 => hj j (by omega) (by omega)), show i + 1 + d = i + (d + 1) by omega]
theorem mrun_spec (x y : List Int) (n i : Nat) : ∀ d m, 1 ≤ m → n < i + m + d → (∀ k, m ≤ k → k < mrun x y n i d m → mruns x y n i k = true) ∧ mruns x y n i (mrun x y n i d m) = false
 | 0, m, h0, h => by
  refine ⟨fun k h1 h2 => by unfold mrun at h2; omega, ?_⟩
  unfold mrun mruns
  rw [decide_eq_false (by omega), Bool.false_and]
 | d + 1, m, h0, h => by
  unfold mrun
  cases hr : mruns x y n i m with
  | true =>
   rw [if_pos rfl]
   obtain ⟨h1, h2⟩ := mrun_spec x y n i d (m + 1) (by omega) (by omega)
   refine ⟨fun k hk1 hk2 => ?_, h2⟩
   by_cases e : k = m
   ·rw [e]; exact hr
   ·exact h1 k (by omega) hk2
  | false =>
   rw [if_neg Bool.false_ne_true]
   exact ⟨fun k h1 h2 => by omega, hr⟩
theorem seg_match (a b : List ByteArray) (t q : Nat) : ∀ M, t + M ≤ a.length → q + M ≤ b.length → (∀ k (h1 : t + k < a.length) (h2 : q + k < b.length), k < M → a[t + k] = b[q + k]) → segL b q (q + M) = segL a t (t + M)
 | 0, _, _, _ => by
  unfold segL
  rw [List.drop_eq_nil_of_le (by rw [List.length_take]; omega), List.drop_eq_nil_of_le (by rw [List.length_take]; omega)]
 | M + 1, h1, h2, h => by
  have ih := seg_match a b t q M (by omega) (by omega) (fun k g1 g2 hk => h k g1 g2 (by omega))
  unfold segL at ih ⊢
  rw [← seg_join a (show t ≤ t + M by omega) (show t + M ≤ t + (M + 1) by omega), ← seg_join b (show q ≤ q + M by omega) (show q + M ≤ q + (M + 1) by omega), ih, show t + (M + 1) = t + M + 1 by omega, show q + (M + 1) = q + M + 1 by omega, take_one_drop a _ (by omega), take_one_drop b _ (by omega), h M (by omega) (by omega) (by omega)]
theorem kind_kept (l : List ByteArray) : kindB l l l = 1 := by
 unfold kindB
 rw [decide_eq_true rfl]
 rfl
def Bnd (m1 m2 : List (Nat × Nat)) (i p r : Nat) : Prop := (i = 0 ∧ p = 0 ∧ r = 0) ∨ ∃ f u v, i = f + 1 ∧ p = u + 1 ∧ r = v + 1 ∧ pt m1 f = some u ∧ pt m2 f = some v
def mres (a b c : List ByteArray) (m1 m2 : List (Nat × Nat)) (f i : Nat) (at_ : Nat × Nat × Nat) (out : List S34) : Option (List S34) :=
 (mgo a b c (pxs a.length m1) (pxs a.length m2) f i at_ out).bind fun r => cutAt a b c r.1 (a.length, b.length, c.length) r.2
inductive Turn (a b c : List ByteArray) (m1 m2 : List (Nat × Nat)) (i p r : Nat) : Prop
 | last (h : ∀ j, i ≤ j → j < a.length → pt m1 j = none ∨ pt m2 j = none) (he : ∀ f out, a.length - i < f → mres a b c m1 m2 f i (i, p, r) out = some (out ++ gapP a b c (i, p, r) (a.length, b.length, c.length)))
 | next (t q s M : Nat) (h1 : i ≤ t) (h2 : t + M ≤ a.length) (hM : 1 ≤ M) (h : ∀ j, i ≤ j → j < t → pt m1 j = none ∨ pt m2 j = none) (hq : ∀ k, k < M → pt m1 (t + k) = some (q + k) ∧ pt m2 (t + k) = some (s + k)) (hs : ¬ (pt m1 (t + M) = some (q + M) ∧ pt m2 (t + M) = some (s + M)))
   (hp : p ≤ q) (hr : r ≤ s) (hqb : q + M ≤ b.length) (hsc : s + M ≤ c.length) (hb : Bnd m1 m2 (t + M) (q + M) (s + M))
   (he : ∀ f out, a.length - i < f → ∃ f', a.length - (t + M) < f' ∧ mres a b c m1 m2 f i (i, p, r) out = mres a b c m1 m2 f' (t + M) (t + M, q + M, s + M) (out ++ gapP a b c (i, p, r) (t, q, s) ++ [⟨1, segL a t (t + M), segL a t (t + M), segL a t (t + M)⟩]))
theorem pn_nonneg {o : Option Nat} : decide (0 ≤ pn o) = o.isSome := by
 cases o with
 | none => rfl
 | some u => simp [pn]
theorem turn {a b c : List ByteArray} {m1 m2 : List (Nat × Nat)} (h1 : Match a b 0 0 m1) (h2 : Match a c 0 0 m2) (i p r : Nat) (hi : i ≤ a.length) (hb : Bnd m1 m2 i p r) : Turn a b c m1 m2 i p r := by
 have hboth : ∀ j, j < a.length → mboth (pxs a.length m1) (pxs a.length m2) j = ((pt m1 j).isSome && (pt m2 j).isSome) := fun j hj => by
  unfold mboth
  rw [pxs_at h1 j hj, pxs_at h2 j hj, pn_nonneg, pn_nonneg]
 have hpb : p ≤ b.length ∧ r ≤ c.length := by
  rcases hb with ⟨_, rfl, rfl⟩ | ⟨f, u, v, _, rfl, rfl, e1, e2⟩
  ·omega
  ·obtain ⟨_, _, _, g1, _⟩ := pt_some h1 e1
   obtain ⟨_, _, _, g2, _⟩ := pt_some h2 e2
   omega
 obtain ⟨t, g1, g2, g3, g4⟩ := ex_next (fun j => (pt m1 j).isSome && (pt m2 j).isSome) (a.length - i) i a.length (by omega)
 have hno : ∀ j, i ≤ j → j < t → pt m1 j = none ∨ pt m2 j = none := fun j k1 k2 => by
  have := g3 j k1 k2
  simp only [Bool.and_eq_false_iff, Option.isSome_eq_false_iff, Option.isNone_iff_eq_none] at this
  exact this
 have hsk : ∀ f out, mgo a b c (pxs a.length m1) (pxs a.length m2) (f + (t - i)) i (i, p, r) out = mgo a b c (pxs a.length m1) (pxs a.length m2) f t (i, p, r) out := fun f out => by
  have := mgo_skip a b c (pxs a.length m1) (pxs a.length m2) (i, p, r) out (t - i) f i (by omega) (fun j k1 k2 => by
   rw [hboth j (by omega)]
   exact g3 j k1 (by omega))
  rwa [show i + (t - i) = t by omega] at this
 rcases g4 with rfl | ⟨ht, hp⟩
 ·refine .last hno (fun f out hf => ?_)
  obtain ⟨f', rfl⟩ : ∃ f', f = (f' + 1) + (a.length - i) := ⟨f - 1 - (a.length - i), by omega⟩
  unfold mres
  rw [hsk, mgo, if_neg (by omega)]
  exact cutAt_gap a b c (i, p, r) _ out ⟨by simpa using hi, Nat.le_refl _, by simpa using hpb.1, Nat.le_refl _, by simpa using hpb.2, Nat.le_refl _⟩
 ·rw [Bool.and_eq_true, Option.isSome_iff_exists, Option.isSome_iff_exists] at hp
  obtain ⟨⟨q, hq⟩, ⟨s, hs⟩⟩ := hp
  obtain ⟨_, _, _, hqb, _⟩ := pt_some h1 hq
  obtain ⟨_, _, _, hsc, _⟩ := pt_some h2 hs
  have hpq : p ≤ q ∧ r ≤ s := by
   rcases hb with ⟨_, rfl, rfl⟩ | ⟨f, u, v, rfl, rfl, rfl, e1, e2⟩
   ·omega
   ·have := pt_mono h1 e1 hq (by omega)
    have := pt_mono h2 e2 hs (by omega)
    omega
  have xq : (pxs a.length m1).getD t 0 = (q : Int) := by rw [pxs_at h1 t ht, hq]; rfl
  have ys : (pxs a.length m2).getD t 0 = (s : Int) := by rw [pxs_at h2 t ht, hs]; rfl
  obtain ⟨M, hM⟩ : ∃ M, M = mrun (pxs a.length m1) (pxs a.length m2) a.length t a.length 1 := ⟨_, rfl⟩
  have hM1 := mrun_ge (pxs a.length m1) (pxs a.length m2) a.length t a.length 1
  have hM2 := mrun_le (pxs a.length m1) (pxs a.length m2) a.length t a.length 1 (by omega)
  have hsp := mrun_spec (pxs a.length m1) (pxs a.length m2) a.length t a.length 1 (Nat.le_refl _) (by omega)
  rw [← hM] at hM1 hM2 hsp
  have hruns : ∀ k, t + k < a.length → (mruns (pxs a.length m1) (pxs a.length m2) a.length t k = true ↔ pt m1 (t + k) = some (q + k) ∧ pt m2 (t + k) = some (s + k)) := fun k hk => by
   rw [mruns_eq xq ys, pxs_at h1 _ hk, pxs_at h2 _ hk]
   simp only [Bool.and_eq_true, decide_eq_true_eq]
   have hpn : ∀ (o : Option Nat) (z : Nat), pn o = ((z : Nat) : Int) ↔ o = some z := fun o z => by
    cases o with
    | none => simp [pn]
    | some w => simp only [pn, Option.some.injEq]; omega
   rw [hpn, hpn]
   exact ⟨fun h => h.2, fun h => ⟨hk, h⟩⟩
  have hrun : ∀ k, k < M → pt m1 (t + k) = some (q + k) ∧ pt m2 (t + k) = some (s + k) := fun k hk => by
   by_cases e : k = 0
   ·subst e; exact ⟨hq, hs⟩
   ·exact (hruns k (by omega)).1 (hsp.1 k (by omega) hk)
  have hstop : ¬ (pt m1 (t + M) = some (q + M) ∧ pt m2 (t + M) = some (s + M)) := fun h => by
   by_cases e : t + M < a.length
   ·have := (hruns M e).2 h
    rw [hsp.2] at this
    cases this
   ·obtain ⟨_, _, g, _⟩ := pt_some h1 h.1
    omega
  have hl := hrun (M - 1) (by omega)
  obtain ⟨_, _, _, hqM, _⟩ := pt_some h1 hl.1
  obtain ⟨_, _, _, hsM, _⟩ := pt_some h2 hl.2
  have hbn : Bnd m1 m2 (t + M) (q + M) (s + M) := .inr ⟨t + (M - 1), q + (M - 1), s + (M - 1), by omega, by omega, by omega, hl.1, hl.2⟩
  refine .next t q s M g1 hM2 hM1 hno hrun hstop hpq.1 hpq.2 (by omega) (by omega) hbn (fun f out hf => ?_)
  obtain ⟨f', rfl⟩ : ∃ f', f = (f' + 1) + (t - i) := ⟨f - 1 - (t - i), by omega⟩
  refine ⟨f', by omega, ?_⟩
  unfold mres
  have hbt : mboth (pxs a.length m1) (pxs a.length m2) t = true := by rw [hboth t ht, hq, hs]; rfl
  rw [hsk, mgo, if_pos ht, hbt, if_pos rfl, xq, ys, Int.toNat_natCast, Int.toNat_natCast, ← hM, cutAt_gap a b c (i, p, r) (t, q, s) out ⟨g1, by simpa using Nat.le_of_lt ht, hpq.1, by simpa using Nat.le_of_lt hqb, hpq.2, by simpa using Nat.le_of_lt hsc⟩, Option.bind_some, cutAt_gap a b c (t, q, s) (t + M, q + M, s + M) _ ⟨by simp, hM2, by simp, by simp; omega, by simp, by simp; omega⟩, Option.bind_some]
  have hg : gapP a b c (t, q, s) (t + M, q + M, s + M) = [⟨1, segL a t (t + M), segL a t (t + M), segL a t (t + M)⟩] := by
   unfold gapP
   rw [if_neg (by simp; omega)]
   have e1 : segL b q (q + M) = segL a t (t + M) := seg_match a b t q M hM2 (by omega) (fun k k1 k2 hk => by
    obtain ⟨_, _, _, _, e⟩ := pt_some h1 (hrun k hk).1
    exact e)
   have e2 : segL c s (s + M) = segL a t (t + M) := seg_match a c t s M hM2 (by omega) (fun k k1 k2 hk => by
    obtain ⟨_, _, _, _, e⟩ := pt_some h2 (hrun k hk).2
    exact e)
   simp only
   rw [e1, e2]
   unfold mkPiece
   rw [kind_kept]
  rw [hg]
end Go.Proofs.Ytahpbpacjciddaa.Pr
end
section
namespace Go.Proofs.Ytahpbpacjciddaa.Pr
open Go.RowKit Go.Proofs.YtahpbpacjciddaaW.PrintWords Go.Proofs.YtahpbpacjciddaaW.PrintLast Go.Proofs.YtahpbpacjciddaaW.PrintMore
set_option linter.unusedVariables false
set_option linter.unusedSimpArgs false
theorem segL_nil {l : List ByteArray} {p q : Nat} (hpq : p ≤ q) (hq : q ≤ l.length) : segL l p q = [] ↔ p = q := by
 rw [← List.length_eq_zero_iff]
 unfold segL
 rw [List.length_drop, List.length_take]
 omega
theorem segL_len {l : List ByteArray} {p q : Nat} (hq : q ≤ l.length) : (segL l p q).length = q - p := by
 unfold segL
 rw [List.length_drop, List.length_take]
 omega
inductive Run (a b c : List ByteArray) (m1 m2 : List (Nat × Nat)) : Nat → Nat → Nat → List S34 → Prop
 | last (i p r : Nat) (hi : i ≤ a.length) (hp : p ≤ b.length) (hr : r ≤ c.length) (hB : Bnd m1 m2 i p r) (hn : ∀ j, i ≤ j → j < a.length → pt m1 j = none ∨ pt m2 j = none) : Run a b c m1 m2 i p r (gapP a b c (i, p, r) (a.length, b.length, c.length))
 | next (i p r t q s M : Nat) (R : List S34) (hB : Bnd m1 m2 i p r) (h1 : i ≤ t) (h2 : t + M ≤ a.length) (hM : 1 ≤ M) (hn : ∀ j, i ≤ j → j < t → pt m1 j = none ∨ pt m2 j = none) (hq : ∀ k, k < M → pt m1 (t + k) = some (q + k) ∧ pt m2 (t + k) = some (s + k)) (hs : ¬ (pt m1 (t + M) = some (q + M) ∧ pt m2 (t + M) = some (s + M)))
   (hp : p ≤ q) (hr : r ≤ s) (hqb : q + M ≤ b.length) (hsc : s + M ≤ c.length) (hR : Run a b c m1 m2 (t + M) (q + M) (s + M) R) : Run a b c m1 m2 i p r (gapP a b c (i, p, r) (t, q, s) ++ ⟨1, segL a t (t + M), segL a t (t + M), segL a t (t + M)⟩ :: R)
theorem run_ex {a b c : List ByteArray} {m1 m2 : List (Nat × Nat)} (h1 : Match a b 0 0 m1) (h2 : Match a c 0 0 m2) : ∀ (d i p r : Nat), i + d = a.length → Bnd m1 m2 i p r → ∃ R, Run a b c m1 m2 i p r R ∧ ∀ f out, a.length - i < f → mres a b c m1 m2 f i (i, p, r) out = some (out ++ R) := by
 intro d
 induction d using Nat.strongRecOn with
 | _ d ih =>
 intro i p r hd hB
 have hpb : p ≤ b.length ∧ r ≤ c.length := by
  rcases hB with ⟨_, rfl, rfl⟩ | ⟨f, u, v, _, rfl, rfl, e1, e2⟩
  ·omega
  ·obtain ⟨_, _, _, g1, _⟩ := pt_some h1 e1
   obtain ⟨_, _, _, g2, _⟩ := pt_some h2 e2
   omega
 cases turn h1 h2 i p r (by omega) hB with
 | last hn he => exact ⟨_, .last i p r (by omega) hpb.1 hpb.2 hB hn, he⟩
 | next t q s M g1 g2 hM hn hq hs hp hr hqb hsc hb2 he =>
  obtain ⟨R, hR, hRe⟩ := ih (a.length - (t + M)) (by omega) (t + M) (q + M) (s + M) (by omega) hb2
  refine ⟨_, .next i p r t q s M R hB g1 g2 hM hn hq hs hp hr hqb hsc hR, fun f out hf => ?_⟩
  obtain ⟨f', hf', e⟩ := he f out hf
  rw [e, hRe f' _ hf']
  simp only [List.append_assoc, List.singleton_append]
noncomputable def mergeOf (a b c : List ByteArray) : List S34 := (mres a b c (bestOf a b) (bestOf a c) (a.length + 1) 0 (0, 0, 0) []).getD []
theorem mergeOf_run (a b c : List ByteArray) : Run a b c (bestOf a b) (bestOf a c) 0 0 0 (mergeOf a b c) ∧ mres a b c (bestOf a b) (bestOf a c) (a.length + 1) 0 (0, 0, 0) [] = some (mergeOf a b c) := by
 obtain ⟨R, h1, h2⟩ := run_ex (bestOf_greedy a b).match (bestOf_greedy a c).match a.length 0 0 0 (by omega) (.inl ⟨rfl, rfl, rfl⟩)
 have h3 := h2 (a.length + 1) [] (by omega)
 rw [List.nil_append] at h3
 have e : mergeOf a b c = R := by
  unfold mergeOf
  rw [h3]
  rfl
 rw [e]
 exact ⟨h1, h3⟩
def triErr (a b c : List ByteArray) : Int := if linesErr a = 0 then (if linesErr b = 0 then linesErr c else linesErr b) else linesErr a
theorem triErr_zero {a b c : List ByteArray} : triErr a b c = 0 ↔ linesErr a = 0 ∧ linesErr b = 0 ∧ linesErr c = 0 := by
 unfold triErr
 split
 ·rename_i h
  split
  ·rename_i h2
   exact ⟨fun h3 => ⟨h, h2, h3⟩, fun h => h.2.2⟩
  ·rename_i h2
   exact ⟨fun h => absurd h h2, fun h => absurd h.2.1 h2⟩
 ·rename_i h
  exact ⟨fun g => absurd g h, fun g => absurd g.1 h⟩
noncomputable def mergeR (a b c : List ByteArray) : List S34 × Int := if triErr a b c = 0 then (mergeOf a b c, 0) else ([], triErr a b c)
theorem join_snd {l : List ByteArray} (hs : small l) : ∃ x, lines_Join.f l = some (x, linesErr l) := by
 rw [join_val l hs]
 by_cases h : linesErr l = 0
 ·rw [if_pos h, h]
  exact ⟨_, rfl⟩
 ·rw [if_neg h]
  exact ⟨_, rfl⟩
theorem merge_ev (a b c : List ByteArray) (ha : small a) (hb : small b) (hc : small c) : Ev (fun k => merge_Merge.f k a b c) (mergeR a b c) := by
 obtain ⟨x, hx⟩ := join_snd ha
 obtain ⟨y, hy⟩ := join_snd hb
 obtain ⟨z, hz⟩ := join_snd hc
 unfold merge_Merge.f mergeR triErr
 refine Ev.bc hx ?_
 by_cases e1 : linesErr a = 0
 ·rw [if_pos e1]
  refine Ev.pos e1 ?_
  unfold mm1
  refine Ev.bc hy ?_
  by_cases e2 : linesErr b = 0
  ·rw [if_pos e2]
   refine Ev.pos e2 ?_
   unfold mm2
   refine Ev.bc hz ?_
   by_cases e3 : linesErr c = 0
   ·rw [if_pos e3]
    refine Ev.pos e3 ?_
    unfold mm3
    refine Ev.bd (pairs_ev a b ha hb) (Ev.bd (pairs_ev a c ha hc) (Ev.ke ?_))
    rw [if_pos (bothErr_zero.2 ⟨e1, e2⟩), if_pos (bothErr_zero.2 ⟨e1, e3⟩)]
    unfold merge_Merge.g
    obtain ⟨l1, _⟩ := linesErr_zero e1
    obtain ⟨l2, _⟩ := linesErr_zero e2
    obtain ⟨l3, _⟩ := linesErr_zero e3
    rw [if_pos (by
     rw [pxs_fits (bestOf_greedy a b).match (by omega), pxs_fits (bestOf_greedy a c).match (by omega), decide_eq_true (show a.length ≤ 400000 by omega), decide_eq_true (show b.length ≤ 400000 by omega), decide_eq_true (show c.length ≤ 400000 by omega)]
     rfl)]
    have h := (mergeOf_run a b c).2
    unfold mres at h
    obtain ⟨r, h1, h2⟩ := Option.bind_eq_some_iff.1 h
    show ((mgo a b c (pxs a.length (bestOf a b)) (pxs a.length (bestOf a c)) (a.length + 1) 0 (0, 0, 0) []).bind _) = _
    rw [h1, Option.bind_some, h2]
    rfl
   ·rw [if_neg e3]
    exact Ev.neg e3 (Ev.rt rfl)
  ·rw [if_neg e2, if_neg e2]
   exact Ev.neg e2 (Ev.rt rfl)
 ·rw [if_neg e1, if_neg e1]
  exact Ev.neg e1 (Ev.rt rfl)
theorem gapP_mem {a b c : List ByteArray} {x y : Nat × Nat × Nat} {z : S34} (h : z ∈ gapP a b c x y) : z = mkPiece (segL a x.1 y.1) (segL b x.2.1 y.2.1) (segL c x.2.2 y.2.2) ∧ y ≠ x := by
 unfold gapP at h
 split at h
 ·cases h
 ·rename_i e
  exact ⟨List.mem_singleton.1 h, e⟩
theorem segL_le (l : List ByteArray) (x y : Nat) : (segL l x y).length ≤ l.length := by
 unfold segL
 rw [List.length_drop, List.length_take]
 omega
theorem gapP_len (a b c : List ByteArray) (x y : Nat × Nat × Nat) : (gapP a b c x y).length ≤ 1 := by
 unfold gapP
 split <;> simp
theorem run_short {a b c : List ByteArray} {m1 m2 : List (Nat × Nat)} {i p r : Nat} {R : List S34} (h : Run a b c m1 m2 i p r R) : R.length + 2 * i ≤ 2 * a.length + 1 ∧ ∀ x ∈ R, x.f1.length ≤ a.length ∧ x.f2.length ≤ max a.length b.length ∧ x.f3.length ≤ max a.length c.length := by
 have hg : ∀ x y, ∀ z ∈ gapP a b c x y, z.f1.length ≤ a.length ∧ z.f2.length ≤ max a.length b.length ∧ z.f3.length ≤ max a.length c.length := fun x y z hz => by
  obtain ⟨rfl, _⟩ := gapP_mem hz
  have g1 := segL_le a x.1 y.1
  have g2 := segL_le b x.2.1 y.2.1
  have g3 := segL_le c x.2.2 y.2.2
  refine ⟨g1, ?_, ?_⟩
  ·show (segL b x.2.1 y.2.1).length ≤ _
   omega
  ·show (segL c x.2.2 y.2.2).length ≤ _
   omega
 induction h with
 | last i p r hi hp hr hB hn =>
  have := gapP_len a b c (i, p, r) (a.length, b.length, c.length)
  exact ⟨by omega, hg _ _⟩
 | next i p r t q s M R hB h1 h2 hM hn hq hs hp hr hqb hsc hR ih =>
  have := gapP_len a b c (i, p, r) (t, q, s)
  refine ⟨by rw [List.length_append, List.length_cons]; omega, fun x hx => ?_⟩
  rcases List.mem_append.1 hx with hx | hx
  ·exact hg _ _ x hx
  ·rcases List.mem_cons.1 hx with rfl | hx
   ·have := segL_le a t (t + M)
    refine ⟨this, ?_, ?_⟩
    ·show (segL a t (t + M)).length ≤ _
     omega
    ·show (segL a t (t + M)).length ≤ _
     omega
   ·exact ih.2 x hx
theorem rd_pieces (m : List S34) (i : Nat) (h : i < m.length) : rd_T34 m (i : Int) = m[i] := by simp [rd_T34, h]
end Go.Proofs.Ytahpbpacjciddaa.Pr
end
