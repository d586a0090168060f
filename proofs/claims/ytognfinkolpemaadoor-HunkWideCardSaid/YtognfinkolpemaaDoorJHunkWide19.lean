/- Part 19 of the proof of HunkWide: texts put together. -/
import Derived.Test.YtognfinkolpemaaDoorJHunkWide4
import Derived.Test.YtognfinkolpemaaDoorJHunkWide5
import Derived.Test.YtognfinkolpemaaDoorJHunkWide6
import Derived.Test.YtognfinkolpemaaDoorJHunkWide8
import Derived.Test.YtognfinkolpemaaDoorJHunkWide9
import Derived.Test.YtognfinkolpemaaDoorJHunkWide10
import Derived.Test.YtognfinkolpemaaDoorJHunkWide14
import Derived.Test.YtognfinkolpemaaDoorJHunkWide15
import Derived.Test.YtognfinkolpemaaDoorJHunkWide16
import Derived.Test.YtognfinkolpemaaDoorJHunkWide17
import Derived.Test.YtognfinkolpemaaDoorJHunkWide18
set_option linter.unusedVariables false
set_option linter.unusedSimpArgs false
section
namespace Go.Proofs.YtognfinkolpemaaDoor.Pr
section
variable {α : Type} [DecidableEq α]
def lcsLen : List α → List α → Nat
 | [], _ => 0
 | _ :: _, [] => 0
 | x :: a, y :: b => if x = y then lcsLen a b + 1 else max (lcsLen a (y :: b)) (lcsLen (x :: a) b)
termination_by a b => a.length + b.length
theorem lcsLen_nil_left (b : List α) : lcsLen ([] : List α) b = 0 := by rw [lcsLen]
theorem lcsLen_nil_right (a : List α) : lcsLen a ([] : List α) = 0 := by cases a <;> rw [lcsLen]
theorem lcsLen_cons (x y : α) (a b : List α) : lcsLen (x :: a) (y :: b) = if x = y then lcsLen a b + 1 else max (lcsLen a (y :: b)) (lcsLen (x :: a) b) := by rw [lcsLen]
theorem sub_le : ∀ (n : Nat) (a b c : List α), a.length + b.length = n → c.Sublist a → c.Sublist b → c.length ≤ lcsLen a b := by
 intro n
 induction n using Nat.strongRecOn with
 | _ n ih =>
  intro a b c hn ha hb
  match a, b with
  | [], b => simp [List.sublist_nil.1 ha]
  | x :: a, [] => simp [List.sublist_nil.1 hb]
  | x :: a, y :: b =>
   simp only [List.length_cons] at hn
   rw [lcsLen_cons]
   cases ha with
   | cons _ ha =>
    have h1 := ih (a.length + (y :: b).length) (by simp only [List.length_cons]; omega) a (y :: b) c rfl ha hb
    split
    ·rename_i hxy
     cases hb with
     | cons _ hb =>
      have := ih (a.length + b.length) (by omega) a b c rfl ha hb
      omega
     | cons_cons _ hb =>
      rename_i c'
      have := ih (a.length + b.length) (by omega) a b c' rfl ((List.sublist_cons_self _ _).trans ha) hb
      simp only [List.length_cons]
      omega
    ·omega
   | cons_cons _ ha =>
    rename_i c'
    cases hb with
    | cons _ hb =>
     have h1 := ih ((x :: a).length + b.length) (by simp only [List.length_cons]; omega) (x :: a) b (x :: c') rfl (ha.cons_cons x) hb
     split
     ·rename_i hxy
      have := ih (a.length + b.length) (by omega) a b c' rfl ha ((List.sublist_cons_self _ _).trans hb)
      simp only [List.length_cons]
      omega
     ·omega
    | cons_cons _ hb =>
     rw [if_pos rfl]
     have := ih (a.length + b.length) (by omega) a b c' rfl ha hb
     simp only [List.length_cons]
     omega
theorem sub_ex : ∀ (n : Nat) (a b : List α), a.length + b.length = n → ∃ c : List α, c.Sublist a ∧ c.Sublist b ∧ c.length = lcsLen a b := by
 intro n
 induction n using Nat.strongRecOn with
 | _ n ih =>
  intro a b hn
  match a, b with
  | [], b => exact ⟨[], List.nil_sublist _, List.nil_sublist _, by rw [lcsLen_nil_left]; rfl⟩
  | x :: a, [] => exact ⟨[], List.nil_sublist _, List.nil_sublist _, by rw [lcsLen_nil_right]; rfl⟩
  | x :: a, y :: b =>
   simp only [List.length_cons] at hn
   rw [lcsLen_cons]
   by_cases hxy : x = y
   ·subst hxy
    rw [if_pos rfl]
    obtain ⟨c, h1, h2, h3⟩ := ih (a.length + b.length) (by omega) a b rfl
    exact ⟨x :: c, h1.cons_cons x, h2.cons_cons x, by simp [h3]⟩
   ·rw [if_neg hxy]
    obtain ⟨c, h1, h2, h3⟩ := ih (a.length + (y :: b).length) (by simp only [List.length_cons]; omega) a (y :: b) rfl
    obtain ⟨d, k1, k2, k3⟩ := ih ((x :: a).length + b.length) (by simp only [List.length_cons]; omega) (x :: a) b rfl
    by_cases hm : lcsLen (x :: a) b ≤ lcsLen a (y :: b)
    ·exact ⟨c, h1.cons x, h2, by rw [h3]; omega⟩
    ·exact ⟨d, k1, k2.cons y, by rw [k3]; omega⟩
theorem lcsLen_le_iff {a b : List α} {n : Nat} : lcsLen a b ≤ n ↔ ∀ c : List α, c.Sublist a → c.Sublist b → c.length ≤ n := by
 constructor
 ·intro h c h1 h2
  exact Nat.le_trans (sub_le _ a b c rfl h1 h2) h
 ·intro h
  obtain ⟨c, h1, h2, h3⟩ := sub_ex _ a b rfl
  rw [← h3]
  exact h c h1 h2
theorem lcsLen_comm (a b : List α) : lcsLen a b = lcsLen b a := by
 apply Nat.le_antisymm
 ·exact lcsLen_le_iff.2 fun c h1 h2 => sub_le _ b a c rfl h2 h1
 ·exact lcsLen_le_iff.2 fun c h1 h2 => sub_le _ a b c rfl h2 h1
theorem lcsLen_le_left (a b : List α) : lcsLen a b ≤ a.length := lcsLen_le_iff.2 fun _ h _ => h.length_le
theorem lcsLen_drop_left (a b : List α) (i j : Nat) (h : i ≤ j) : lcsLen (a.drop j) b ≤ lcsLen (a.drop i) b := lcsLen_le_iff.2 fun c h1 h2 => sub_le _ _ b c rfl (h1.trans (by
 have e : a.drop j = (a.drop i).drop (j - i) := by rw [List.drop_drop]; congr 1; omega
 rw [e]
 exact List.drop_sublist _ _)) h2
theorem lcsLen_drop_right (a b : List α) (i j : Nat) (h : i ≤ j) : lcsLen a (b.drop j) ≤ lcsLen a (b.drop i) := by
 rw [lcsLen_comm a, lcsLen_comm a]
 exact lcsLen_drop_left b a i j h
def LL (a b : List α) (i k : Nat) : Nat := lcsLen (a.drop i) (b.drop k)
theorem LL_end_left (a b : List α) (i k : Nat) (h : a.length ≤ i) : LL a b i k = 0 := by
 unfold LL
 rw [List.drop_eq_nil_of_le h, lcsLen_nil_left]
theorem LL_end_right (a b : List α) (i k : Nat) (h : b.length ≤ k) : LL a b i k = 0 := by
 unfold LL
 rw [List.drop_eq_nil_of_le h, lcsLen_nil_right]
theorem LL_step (a b : List α) (i k : Nat) (h1 : i < a.length) (h2 : k < b.length) : LL a b i k = if a[i] = b[k] then LL a b (i + 1) (k + 1) + 1 else max (LL a b (i + 1) k) (LL a b i (k + 1)) := by
 unfold LL
 rw [drop_at a i h1, drop_at b k h2, lcsLen_cons]
theorem LL_mono (a b : List α) {i i' k k' : Nat} (h1 : i ≤ i') (h2 : k ≤ k') : LL a b i' k' ≤ LL a b i k := Nat.le_trans (lcsLen_drop_left a _ i i' h1) (lcsLen_drop_right _ b k k' h2)
theorem LL_pair (a b : List α) {i i' k k' : Nat} (h1 : i ≤ i') (h2 : k ≤ k') (h3 : i' < a.length) (h4 : k' < b.length) (he : a[i'] = b[k']) : LL a b (i' + 1) (k' + 1) + 1 ≤ LL a b i k := by
 have := LL_step a b i' k' h3 h4
 rw [if_pos he] at this
 rw [← this]
 exact LL_mono a b h1 h2
def Good (a b : List α) (i k i' k' : Nat) : Prop := i ≤ i' ∧ k ≤ k' ∧ ∃ (h1 : i' < a.length) (h2 : k' < b.length), a[i'] = b[k'] ∧ LL a b (i' + 1) (k' + 1) + 1 = LL a b i k
instance (a b : List α) (i k i' k' : Nat) : Decidable (Good a b i k i' k') := by unfold Good; infer_instance
theorem Good.ex (a b : List α) : ∀ (n i k : Nat), (a.length - i) + (b.length - k) = n → 0 < LL a b i k → ∃ i' k', Good a b i k i' k' := by
 intro n
 induction n using Nat.strongRecOn with
 | _ n ih =>
  intro i k hn hp
  have h1 : i < a.length := by
   rcases Nat.lt_or_ge i a.length with h | h
   ·exact h
   ·rw [LL_end_left a b i k h] at hp
    omega
  have h2 : k < b.length := by
   rcases Nat.lt_or_ge k b.length with h | h
   ·exact h
   ·rw [LL_end_right a b i k h] at hp
    omega
  have hs := LL_step a b i k h1 h2
  by_cases he : a[i] = b[k]
  ·rw [if_pos he] at hs
   exact ⟨i, k, Nat.le_refl _, Nat.le_refl _, h1, h2, he, by omega⟩
  ·rw [if_neg he] at hs
   by_cases hm : LL a b (i + 1) k = LL a b i k
   ·obtain ⟨i', k', g1, g2, g3, g4, g5, g6⟩ := ih _ (by omega) (i + 1) k rfl (by omega)
    exact ⟨i', k', by omega, g2, g3, g4, g5, by omega⟩
   ·obtain ⟨i', k', g1, g2, g3, g4, g5, g6⟩ := ih _ (by omega) i (k + 1) rfl (by omega)
    exact ⟨i', k', g1, by omega, g3, g4, g5, by omega⟩
def lexLt (p q : Nat × Nat) : Prop := p.1 < q.1 ∨ p.1 = q.1 ∧ p.2 < q.2
instance (p q : Nat × Nat) : Decidable (lexLt p q) := by unfold lexLt; infer_instance
def First (a b : List α) (i k : Nat) (p : Nat × Nat) : Prop := Good a b i k p.1 p.2 ∧ ∀ q : Nat × Nat, Good a b i k q.1 q.2 → ¬ lexLt q p
theorem First.uniq {a b : List α} {i k : Nat} {p q : Nat × Nat} (h : First a b i k p) (h' : First a b i k q) : p = q := by
 have h1 := h.2 q h'.1
 have h2 := h'.2 p h.1
 obtain ⟨p1, p2⟩ := p
 obtain ⟨q1, q2⟩ := q
 simp only [lexLt] at h1 h2
 simp only [Prod.mk.injEq]
 omega
theorem First.ex (a b : List α) (i k : Nat) (hp : 0 < LL a b i k) : ∃ p, First a b i k p := by
 obtain ⟨i0, k0, hg⟩ := Good.ex a b _ i k rfl hp
 have hi : ∃ i', (∃ k', Good a b i k i' k') ∧ ∀ j, j < i' → ¬ ∃ k', Good a b i k j k' := by
  have key : ∀ n, (∃ k', Good a b i k n k') → ∃ i', (∃ k', Good a b i k i' k') ∧ ∀ j, j < i' → ¬ ∃ k', Good a b i k j k' := by
   intro n
   induction n using Nat.strongRecOn with
   | _ n ih =>
    intro hn
    by_cases h : ∃ j, j < n ∧ ∃ k', Good a b i k j k'
    ·obtain ⟨j, hj, hk⟩ := h
     exact ih j hj hk
    ·exact ⟨n, hn, fun j hj hk => h ⟨j, hj, hk⟩⟩
  exact key i0 ⟨k0, hg⟩
 obtain ⟨i1, ⟨k1, hg1⟩, hmin⟩ := hi
 have key : ∀ n, Good a b i k i1 n → ∃ k', Good a b i k i1 k' ∧ ∀ j, j < k' → ¬ Good a b i k i1 j := by
  intro n
  induction n using Nat.strongRecOn with
  | _ n ih =>
   intro hn
   by_cases h : ∃ j, j < n ∧ Good a b i k i1 j
   ·obtain ⟨j, hj, hk⟩ := h
    exact ih j hj hk
   ·exact ⟨n, hn, fun j hj hk => h ⟨j, hj, hk⟩⟩
 obtain ⟨k2, hg2, hmin2⟩ := key k1 hg1
 refine ⟨(i1, k2), hg2, fun q hq hlt => ?_⟩
 rcases hlt with hlt | ⟨he, hlt⟩
 ·exact hmin q.1 hlt ⟨q.2, hq⟩
 ·exact hmin2 q.2 hlt (by
   have e : q.1 = i1 := he
   rw [← e]
   exact hq)
inductive Greedy (a b : List α) : Nat → Nat → List (Nat × Nat) → Prop
 | nil (i k : Nat) (h : LL a b i k = 0) : Greedy a b i k []
 | cons (i k : Nat) (p : Nat × Nat) (m : List (Nat × Nat)) (hf : First a b i k p) (hm : Greedy a b (p.1 + 1) (p.2 + 1) m) : Greedy a b i k (p :: m)
theorem First.pos {a b : List α} {i k : Nat} {p : Nat × Nat} (h : First a b i k p) : 0 < LL a b i k := by
 obtain ⟨⟨_, _, _, _, _, h6⟩, _⟩ := h
 omega
theorem Greedy.uniq {a b : List α} : ∀ {m n : List (Nat × Nat)} {i k : Nat}, Greedy a b i k m → Greedy a b i k n → m = n := by
 intro m
 induction m with
 | nil =>
  intro n i k h h'
  cases h with
  | nil _ _ h0 =>
   cases h' with
   | nil => rfl
   | cons _ _ p m' hf _ => have := hf.pos; omega
 | cons p m ih =>
  intro n i k h h'
  cases h with
  | cons _ _ _ _ hf hm =>
   cases h' with
   | nil _ _ h0 => have := hf.pos; omega
   | cons _ _ q m' hf' hm' =>
    have e := hf.uniq hf'
    subst e
    rw [ih hm hm']
theorem Greedy.ex (a b : List α) : ∀ (n i k : Nat), LL a b i k = n → ∃ m, Greedy a b i k m ∧ m.length = n := by
 intro n
 induction n with
 | zero => exact fun i k h => ⟨[], .nil i k h, rfl⟩
 | succ n ih =>
  intro i k h
  obtain ⟨p, hp⟩ := First.ex a b i k (by omega)
  obtain ⟨m, hm, hl⟩ := ih (p.1 + 1) (p.2 + 1) (by
   obtain ⟨⟨_, _, _, _, _, h6⟩, _⟩ := hp
   omega)
  exact ⟨p :: m, .cons i k p m hp hm, by simp [hl]⟩
theorem Greedy.length {a b : List α} {i k : Nat} {m : List (Nat × Nat)} (h : Greedy a b i k m) : m.length = LL a b i k := by
 obtain ⟨n, hn, hl⟩ := Greedy.ex a b _ i k rfl
 rw [Greedy.uniq h hn, hl]
inductive Match (a b : List α) : Nat → Nat → List (Nat × Nat) → Prop
 | nil (i k : Nat) : Match a b i k []
 | cons (i k : Nat) (p : Nat × Nat) (m : List (Nat × Nat)) (h1 : i ≤ p.1) (h2 : k ≤ p.2) (h3 : p.1 < a.length) (h4 : p.2 < b.length) (he : a[p.1] = b[p.2]) (hm : Match a b (p.1 + 1) (p.2 + 1) m) : Match a b i k (p :: m)
theorem Match.length_le {a b : List α} {i k : Nat} {m : List (Nat × Nat)} (h : Match a b i k m) : m.length ≤ LL a b i k := by
 induction h with
 | nil => simp
 | cons i k p m h1 h2 h3 h4 he hm ih =>
  have := LL_pair a b h1 h2 h3 h4 he
  simp only [List.length_cons]
  omega
theorem Greedy.match {a b : List α} {i k : Nat} {m : List (Nat × Nat)} (h : Greedy a b i k m) : Match a b i k m := by
 induction h with
 | nil i k _ => exact .nil i k
 | cons i k p m hf hm ih =>
  obtain ⟨⟨g1, g2, g3, g4, g5, _⟩, _⟩ := hf
  exact .cons i k p m g1 g2 g3 g4 g5 ih
def before : List (Nat × Nat) → List (Nat × Nat) → Bool
 | p :: m, q :: n => if p.1 ≠ q.1 then decide (p.1 < q.1) else if p.2 ≠ q.2 then decide (p.2 < q.2) else before m n
 | _, _ => false
theorem before_cons (p q : Nat × Nat) (m n : List (Nat × Nat)) : before (p :: m) (q :: n) = (decide (lexLt p q) || (decide (p = q) && before m n)) := by
 obtain ⟨p1, p2⟩ := p
 obtain ⟨q1, q2⟩ := q
 simp only [before, lexLt, Prod.mk.injEq]
 by_cases h1 : p1 = q1
 ·subst h1
  by_cases h2 : p2 = q2
  ·subst h2
   simp
  ·simp [h2]
 ·simp [h1]
theorem Greedy.first {a b : List α} {i k : Nat} {m : List (Nat × Nat)} (h : Greedy a b i k m) : ∀ n : List (Nat × Nat), Match a b i k n → n.length = m.length → before n m = false := by
 induction h with
 | nil i k _ =>
  intro n _ hl
  have : n = [] := List.eq_nil_of_length_eq_zero hl
  subst this
  rfl
 | cons i k p m hf hm ih =>
  intro n hn hl
  cases hn with
  | nil => simp at hl
  | cons _ _ q n h1 h2 h3 h4 he hn =>
   simp only [List.length_cons] at hl
   have hq : Good a b i k q.1 q.2 := by
    refine ⟨h1, h2, h3, h4, he, ?_⟩
    have k1 := LL_pair a b h1 h2 h3 h4 he
    have k2 := hn.length_le
    have k3 := hm.length
    have k4 : LL a b (p.1 + 1) (p.2 + 1) + 1 = LL a b i k := by
     obtain ⟨⟨_, _, _, _, _, g6⟩, _⟩ := hf
     exact g6
    omega
   have hlt := hf.2 q hq
   rw [before_cons, decide_eq_false hlt, Bool.false_or]
   by_cases e : q = p
   ·subst e
    rw [ih n hn (by omega), Bool.and_false]
   ·rw [decide_eq_false e, Bool.false_and]
end
end Go.Proofs.YtognfinkolpemaaDoor.Pr
end
section
namespace Go.Proofs.YtognfinkolpemaaDoor.Pr
open Go.RowKit Go.Proofs.YtognfinkolpemaaDoorW.PrintWords Go.Proofs.YtognfinkolpemaaDoorW.PrintLast Go.Proofs.YtognfinkolpemaaDoorW.PrintMore
attribute [local go_sem] max2_int min2_int max_two min_two max_three min_three max_four min_four   
def lcs_Length.f (k : Nat) (l0 : List ByteArray) (l1 : List ByteArray) : Option (Int × Int) := (lcs_check.f l0 l1).bind fun t264 => (if t264 = 0 then ((lcs_table.f k l0 l1).bind fun t265 => (if 0 < (t265.length : Int) then (if 0 < ((rd_Li64 t265 0).length : Int) then (some (rd (rd_Li64 t265 0) 0, 0)) else (none)) else (none))) else (some (0, t264)))
set_option maxHeartbeats 8000000 in
set_option maxRecDepth 100000 in
theorem lcs_Length.calls (k : Nat) (A0 : Option Addr) (c0 : Nat) (l0 : List ByteArray) (A1 : Option Addr) (c1 : Nat) (l1 : List ByteArray) (r1 : Int) (r2 : Int) (w : World) (hr0 : Kd.C Kd.string w A0 l0.length l0) (hc0 : l0.length ≤ c0) (hr1 : Kd.C Kd.string w A1 l1.length l1) (hc1 : l1.length ≤ c1) (h : lcs_Length.f k l0 l1 = some (r1, r2)) :
  Calls Tryd.prog 25 #[.slice A0 l0.length c0, .slice A1 l1.length c1] w fun e w' => e = .returned (.tuple #[.int .i64 r1, .int .i64 r2]) ∧ Below w.heap.size w w' := by
 have HR0 := Aside0.mk hr0
 have HC0 := Aside0.mk hc0
 clear hr0 hc0
 have HR1 := Aside0.mk hr1
 have HC1 := Aside0.mk hc1
 clear hr1 hc1
 have HB := Aside0.mk (Below.refl w.heap.size w)
 have H : ((lcs_check.f l0 l1).bind fun t264 => (if t264 = 0 then ((lcs_table.f k l0 l1).bind fun t265 => (if 0 < (t265.length : Int) then (if 0 < ((rd_Li64 t265 0).length : Int) then (some (rd (rd_Li64 t265 0) 0, 0)) else (none)) else (none))) else (some (0, t264)))) = some (r1, r2) := h
 clear h
 replace H := Option.bind_eq_some_iff.mp H
 obtain ⟨t264, A30, H⟩ := H
 replace H : (if t264 = 0 then ((lcs_table.f k l0 l1).bind fun t265 => (if 0 < (t265.length : Int) then (if 0 < ((rd_Li64 t265 0).length : Int) then (some (rd (rd_Li64 t265 0) 0, 0)) else (none)) else (none))) else (some (0, t264))) = some (r1, r2) := H
 have A3 := Aside0.mk A30
 clear A30
 by_cases c4 : t264 = 0
 ·rw [if_pos c4] at H
  have c4b0 : (t264 == 0) = true := beq_iff_eq.mpr c4
  have c4b1 : (t264 != 0) = false := bne_eq_false_iff_eq.mpr c4
  clear c4
  replace H := Option.bind_eq_some_iff.mp H
  obtain ⟨t265, A50, H⟩ := H
  replace H : (if 0 < (t265.length : Int) then (if 0 < ((rd_Li64 t265 0).length : Int) then (some (rd (rd_Li64 t265 0) 0, 0)) else (none)) else (none)) = some (r1, r2) := H
  have A5 := Aside0.mk A50
  clear A50
  by_cases c6 : 0 < (t265.length : Int)
  ·rw [if_pos c6] at H
   have c6b0 : decide (0 < (t265.length : Int)) = true := decide_eq_true c6
   have c6b1 : decide (0 < t265.length) = true := decide_eq_true (by omega)
   clear c6
   by_cases c7 : 0 < ((rd_Li64 t265 0).length : Int)
   ·rw [if_pos c7] at H
    have c7b0 : decide (0 < ((rd_Li64 t265 0).length : Int)) = true := decide_eq_true c7
    have c7b1 : decide (0 < (rd_Li64 t265 0).length) = true := decide_eq_true (by omega)
    clear c7
    simp only [Option.some.injEq, Prod.mk.injEq] at H
    obtain ⟨rfl, rfl⟩ := H
    go_enter Tryd.func25, Tryd.ntmps25
    go_wp2_with (first | ((with_reducible refine gate_callee (f := 33) rfl ?_); refine goesL_ (some 9) rfl rfl Tryd.func33 (by kernel_rfl) rfl #[.slice A0 l0.length c0, .slice A1 l1.length c1] rfl (by (try simp only [List.map_toArray, List.map_cons, List.map_nil]); first | done | rfl | (simp only [List.length_drop, List.length_take]; rfl)) ?_; (with_reducible refine (lcs_check.calls _ _ l0 _ _ l1 t264 _ ?side1 ?side2 ?side3 ?side4 A3.out).mono ?_); (case side1 => repeat (first | exact HR0.out | (with_reducible refine Kd.C_alloc ?_ _) | (with_reducible refine Kd.C_drewN ?_ _) | (with_reducible refine Kd.C_drew ?_))); (case side2 => exact HC0.out); (case side3 => repeat (first | exact HR1.out | (with_reducible refine Kd.C_alloc ?_ _) | (with_reducible refine Kd.C_drewN ?_ _) | (with_reducible refine Kd.C_drew ?_))); (case side4 => exact HC1.out); rintro e w8 ⟨rfl, hb⟩; refine ⟨_, rfl, ?_⟩; have n0_ := Aside0.mk (below_step (by repeat (first | (with_reducible first | exact HB.out | apply below_alloc | apply pw_below_drewN | apply below_drew1) | exact HB.out)) hb); clear HB; have HB := n0_; clear n0_; (try clear hb); (try clear hb2); (try clear hk); (try clear hi)) | ((with_reducible refine gate_callee (f := 34) rfl ?_); refine goesL_ (some 15) rfl rfl Tryd.func34 (by kernel_rfl) rfl #[.slice A0 l0.length c0, .slice A1 l1.length c1] rfl (by (try simp only [List.map_toArray, List.map_cons, List.map_nil]); first | done | rfl | (simp only [List.length_drop, List.length_take]; rfl)) ?_; (with_reducible refine (lcs_table.calls k _ _ l0 _ _ l1 t265 _ ?side1 ?side2 ?side3 ?side4 A5.out).mono ?_); (case side1 => repeat (first | exact (Kd.C_below HR0.out HB.out) | (with_reducible refine Kd.C_alloc ?_ _) | (with_reducible refine Kd.C_drewN ?_ _) | (with_reducible refine Kd.C_drew ?_))); (case side2 => exact HC0.out); (case side3 => repeat (first | exact (Kd.C_below HR1.out HB.out) | (with_reducible refine Kd.C_alloc ?_ _) | (with_reducible refine Kd.C_drewN ?_ _) | (with_reducible refine Kd.C_drew ?_))); (case side4 => exact HC1.out); rintro e w9 ⟨v266, rfl, ho0, hb⟩; refine ⟨_, rfl, ?_⟩; have n0_ := Aside0.mk (Kd.S_lower ho0 (below_size (by repeat (first | (with_reducible first | exact HB.out | apply below_alloc | apply pw_below_drewN | apply below_drew1) | exact HB.out)))); have n1_ := Aside0.mk (below_step (by repeat (first | (with_reducible first | exact HB.out | apply below_alloc | apply pw_below_drewN | apply below_drew1) | exact HB.out)) hb); clear HB; have HO267 := n0_; have HB := n1_; clear n0_ n1_; (try clear hb); (try clear hb2); (try clear hk); (try clear hi); (try clear ho0); obtain ⟨Ao10, co10, eo10⟩ := Kd.S_slice HO267.out; subst eo10; have p268 : 0 ≤ (0 : Int) := (by omega); have q268 : 0 < (t265.length : Int) := of_decide_eq_true (by first | (with_reducible assumption) | assumption); obtain ⟨ad268, A268_0, c268_0, e268, hx268_0, hl268_0, hi268_0⟩ := at_Li64 (Kd.S_reads' HO267.out).2.2 0 p268 q268; cases e268; obtain ⟨ce268, hce268, hMe268, hcc268⟩ := Kd.S_get HO267.out [] 0 p268 (by first | exact q268 | exact of_decide_eq_true (by first | (with_reducible assumption) | assumption) | (have e_ := (Kd.S_reads' HO267.out).1; omega)); obtain ⟨ve268_0, rfl, ge268_0⟩ := hMe268; have hv268_0 := hcc268 0 _ rfl; rw [Nat.add_zero, show ((Kd.slice 3 (Kd.int .i64))).sz = 1 from rfl, Nat.mul_one] at hv268_0; replace hv268_0 := Option.some.inj (hv268_0.symm.trans hx268_0); rw [hv268_0] at ge268_0; have HL268_0 := Aside0.mk (show Kd.R (Kd.int .i64) 3 _ _ _ _ (rd_Li64 t265 0) from ge268_0); clear hv268_0 ge268_0; clear hcc268 hce268; have qi268 : (0 < t265.length) = True := eq_true (by omega); (try rw [show ((0 : Int)).toNat = 0 from rfl] at hx268_0); (try rw [Addr.add_zero'] at hx268_0); have HR268_0 := Aside0.mk hi268_0; have HC268_0 := Aside0.mk hl268_0; clear hi268_0 hl268_0; replace p268 := eq_true p268; replace q268 := eq_true q268; have p269 : 0 ≤ (0 : Int) := (by omega); have q269 : 0 < ((rd_Li64 t265 0).length : Int) := of_decide_eq_true (by first | (with_reducible assumption) | assumption); obtain ⟨ad269, e269, hx269_0⟩ := Kd.at_int (by repeat (first | (with_reducible exact HR268_0.out) | (with_reducible refine Kd.C_alloc ?_ _) | (with_reducible refine Kd.C_drewN ?_ _) | (with_reducible refine Kd.C_drew ?_) | exact HR268_0.out)) 0 p269 q269; cases e269; have qi269 : (0 < (rd_Li64 t265 0).length) = True := eq_true (by omega); (try rw [show ((0 : Int)).toNat = 0 from rfl] at hx269_0); (try rw [Addr.add_zero'] at hx269_0); replace p269 := eq_true p269; replace q269 := eq_true q269))
    go_ret2
    exact ⟨by first | rfl | (simp [errW_none, errW_some] <;> rfl) | (simp [*, errW_none, errW_some] <;> rfl), by repeat (first | (with_reducible first | exact HB.out | apply below_alloc | apply pw_below_drewN | apply below_drew1) | exact HB.out)⟩
   ·rw [if_neg c7] at H
    exact absurd H (by simp)
  ·rw [if_neg c6] at H
   exact absurd H (by simp)
 ·rw [if_neg c4] at H
  have c4b0 : (t264 == 0) = false := beq_eq_false_iff_ne.mpr c4
  have c4b1 : (t264 != 0) = true := bne_iff_ne.mpr c4
  simp only [Option.some.injEq, Prod.mk.injEq] at H
  obtain ⟨rfl, rfl⟩ := H
  go_enter Tryd.func25, Tryd.ntmps25
  go_wp2_with (first | ((with_reducible refine gate_callee (f := 33) rfl ?_); refine goesL_ (some 9) rfl rfl Tryd.func33 (by kernel_rfl) rfl #[.slice A0 l0.length c0, .slice A1 l1.length c1] rfl (by (try simp only [List.map_toArray, List.map_cons, List.map_nil]); first | done | rfl | (simp only [List.length_drop, List.length_take]; rfl)) ?_; (with_reducible refine (lcs_check.calls _ _ l0 _ _ l1 t264 _ ?side1 ?side2 ?side3 ?side4 A3.out).mono ?_); (case side1 => repeat (first | exact HR0.out | (with_reducible refine Kd.C_alloc ?_ _) | (with_reducible refine Kd.C_drewN ?_ _) | (with_reducible refine Kd.C_drew ?_))); (case side2 => exact HC0.out); (case side3 => repeat (first | exact HR1.out | (with_reducible refine Kd.C_alloc ?_ _) | (with_reducible refine Kd.C_drewN ?_ _) | (with_reducible refine Kd.C_drew ?_))); (case side4 => exact HC1.out); rintro e w11 ⟨rfl, hb⟩; refine ⟨_, rfl, ?_⟩; have n0_ := Aside0.mk (below_step (by repeat (first | (with_reducible first | exact HB.out | apply below_alloc | apply pw_below_drewN | apply below_drew1) | exact HB.out)) hb); clear HB; have HB := n0_; clear n0_; (try clear hb); (try clear hb2); (try clear hk); (try clear hi)))
  go_ret2
  exact ⟨by first | rfl | (simp [errW_none, errW_some] <;> rfl) | (simp [*, errW_none, errW_some] <;> rfl), by repeat (first | (with_reducible first | exact HB.out | apply below_alloc | apply pw_below_drewN | apply below_drew1) | exact HB.out)⟩
end Go.Proofs.YtognfinkolpemaaDoor.Pr
end
section
namespace Go.Proofs.YtognfinkolpemaaDoor.Pr
open Go.RowKit Go.Proofs.YtognfinkolpemaaDoorW.PrintWords Go.Proofs.YtognfinkolpemaaDoorW.PrintLast Go.Proofs.YtognfinkolpemaaDoorW.PrintMore
def bothErr (a b : List ByteArray) : Int := if linesErr a = 0 then linesErr b else linesErr a
theorem bothErr_zero {a b : List ByteArray} : bothErr a b = 0 ↔ linesErr a = 0 ∧ linesErr b = 0 := by
 unfold bothErr
 split
 ·rename_i h
  simp [h]
 ·rename_i h
  simp [h]
theorem lcheck_val (a b : List ByteArray) (ha : small a) (hb : small b) : lcs_check.f a b = some (bothErr a b) := by
 unfold lcs_check.f bothErr
 rw [join_val a ha, join_val b hb]
 by_cases h1 : linesErr a = 0
 ·rw [if_pos h1, if_pos h1]
  by_cases h2 : linesErr b = 0
  ·simp [h2]
  ·simp [h2]
 ·rw [if_neg h1, if_neg h1]
  simp [h1]
def tab (n m : Nat) (f : Nat → Nat → Int) : List (List Int) := (List.range n).map fun i => (List.range m).map fun k => f i k
theorem tab_length (n m : Nat) (f : Nat → Nat → Int) : (tab n m f).length = n := by simp [tab]
theorem tab_row (n m : Nat) (f : Nat → Nat → Int) (i : Nat) (h : i < n) : rd_Li64 (tab n m f) (i : Int) = (List.range m).map fun k => f i k := by
 simp [rd_Li64, tab, h]
theorem tab_row_length (n m : Nat) (f : Nat → Nat → Int) (i : Nat) (h : i < n) : (rd_Li64 (tab n m f) (i : Int)).length = m := by
 rw [tab_row n m f i h]
 simp
theorem tab_at (n m : Nat) (f : Nat → Nat → Int) (i k : Nat) (h : i < n) (h2 : k < m) : rd (rd_Li64 (tab n m f) (i : Int)) (k : Int) = f i k := by
 rw [tab_row n m f i h, rd_at _ k (by simpa using h2)]
 simp
theorem tab_congr (n m : Nat) {f g : Nat → Nat → Int} (h : ∀ i, i < n → ∀ k, k < m → f i k = g i k) : tab n m f = tab n m g := by
 unfold tab
 apply List.map_congr_left
 intro i hi
 apply List.map_congr_left
 intro k hk
 exact h i (List.mem_range.1 hi) k (List.mem_range.1 hk)
theorem range_map_set {β : Type} (m : Nat) (f : Nat → β) (k : Nat) (v : β) : ((List.range m).map f).set k v = (List.range m).map fun j => if j = k then v else f j := by
 apply List.ext_getElem
 ·simp
 ·intro j h1 h2
  have hj : j < m := by simpa using h1
  rw [List.getElem_set]
  simp only [List.getElem_map, List.getElem_range]
  by_cases e : k = j
  ·subst e
   simp
  ·rw [if_neg e, if_neg (fun h => e h.symm)]
theorem tab_set (n m : Nat) (f : Nat → Nat → Int) (i k : Nat) (h : i < n) (v : Int) : (tab n m f).set i ((rd_Li64 (tab n m f) (i : Int)).set k v) = tab n m fun j l => if j = i ∧ l = k then v else f j l := by
 rw [tab_row n m f i h, range_map_set]
 unfold tab
 rw [range_map_set]
 apply List.map_congr_left
 intro j hj
 by_cases e : j = i
 ·subst e
  simp
 ·simp [e]
def fillF (a b : List ByteArray) (i k j m : Nat) : Int := if i < j ∨ (i = j ∧ k ≤ m) then (LL a b j m : Int) else 0
theorem fill_end (a b : List ByteArray) (i : Nat) : fillF a b i b.length = fillF a b (i + 1) 0 := by
 funext j m
 unfold fillF
 by_cases h : i < j
 ·rw [if_pos (.inl h), if_pos]
  omega
 ·by_cases h2 : i = j ∧ b.length ≤ m
  ·rw [if_pos (.inr h2), if_neg (by omega), LL_end_right a b j m h2.2]
   rfl
  ·rw [if_neg (by omega), if_neg (by omega)]
theorem table_l2 (a b : List ByteArray) (ha : a.length ≤ 60) (hb : b.length ≤ 60) (i : Nat) (hi : i < a.length) (r : List (List Int))
  (hnext : Ev (fun k => lcs_table.l1 k a b (tab (a.length + 1) (b.length + 1) (fillF a b i 0)) ((i : Int) - 1)) r) : ∀ k, k ≤ b.length →
  Ev (fun n => lcs_table.l2 n a b (tab (a.length + 1) (b.length + 1) (fillF a b i k)) (i : Int) ((k : Int) - 1)) r := by
 intro k
 induction k with
 | zero =>
  intro _
  refine Ev.step (fun n => by rw [lcs_table.l2]) ?_
  refine Ev.neg (by omega) ?_
  rw [w64 (by omega)]
  exact hnext
 | succ k ih =>
  intro hk
  have h2 : k < b.length := by omega
  have e0 : ((k + 1 : Nat) : Int) - 1 = (k : Int) := by omega
  rw [e0]
  have hT := tab_length (a.length + 1) (b.length + 1) (fillF a b i (k + 1))
  have hr1 := tab_row_length (a.length + 1) (b.length + 1) (fillF a b i (k + 1)) (i + 1) (by omega)
  have hr0 := tab_row_length (a.length + 1) (b.length + 1) (fillF a b i (k + 1)) i (by omega)
  have ci : ((i : Int) + 1) = ((i + 1 : Nat) : Int) := by omega
  have ck : ((k : Int) + 1) = ((k + 1 : Nat) : Int) := by omega
  have hb1 := lcsLen_le_left (a.drop (i + 1)) (b.drop (k + 1))
  rw [List.length_drop] at hb1
  have hs := LL_step a b i k hi h2
  refine Ev.step (fun n => by rw [lcs_table.l2]) ?_
  rw [w64 (x := (i : Int) + 1) (by omega), w64 (x := (k : Int) + 1) (by omega), w64 (x := (k : Int) - 1) (by omega), rdOf_at _ a i hi, rdOf_at _ b k h2, ci, ck]
  refine Ev.pos (by omega) (Ev.pos (by omega) (Ev.pos (by omega) (Ev.pos (by omega) (Ev.pos (by omega) ?_))))
  rw [hT, hr1, hr0, tab_at _ _ _ _ _ (by omega) (by omega), tab_at _ _ _ _ _ (by omega) (by omega), tab_at _ _ _ _ _ (by omega) (by omega), Int.toNat_natCast, Int.toNat_natCast, tab_set _ _ _ _ _ (by omega), tab_set _ _ _ _ _ (by omega)]
  by_cases h : a[i] = b[k]
  ·refine Ev.pos (toList_inj.2 h) (Ev.pos (by omega) (Ev.pos (by omega) (Ev.pos (by omega) (Ev.pos (by omega) (Ev.pos (by omega) (Ev.pos (by omega) ?_))))))
   rw [if_pos h] at hs
   have hv : fillF a b i (k + 1) (i + 1) (k + 1) = (LL a b (i + 1) (k + 1) : Int) := by
    unfold fillF
    rw [if_pos (.inl (Nat.lt_succ_self i))]
   rw [hv, w64 (by unfold LL; omega)]
   have e : (tab (a.length + 1) (b.length + 1) fun j l => if j = i ∧ l = k then 1 + (LL a b (i + 1) (k + 1) : Int) else fillF a b i (k + 1) j l) = tab (a.length + 1) (b.length + 1) (fillF a b i k) := by
    apply tab_congr
    intro j hj l hl
    by_cases c : j = i ∧ l = k
    ·obtain ⟨rfl, rfl⟩ := c
     rw [if_pos ⟨rfl, rfl⟩]
     unfold fillF
     rw [if_pos (.inr ⟨rfl, Nat.le_refl _⟩), hs]
     omega
    ·rw [if_neg c]
     unfold fillF
     by_cases c2 : i < j ∨ (i = j ∧ k + 1 ≤ l)
     ·rw [if_pos c2, if_pos (by omega)]
     ·rw [if_neg c2, if_neg (by omega)]
   rw [e]
   exact ih (by omega)
  ·refine Ev.neg (fun e => h (toList_inj.1 e)) (Ev.pos (by omega) (Ev.pos (by omega) (Ev.pos (by omega) (Ev.pos (by omega) (Ev.pos (by omega) (Ev.pos (by omega) (Ev.pos (by omega) ?_)))))))
   rw [if_neg h] at hs
   have hv : fillF a b i (k + 1) (i + 1) k = (LL a b (i + 1) k : Int) := by
    unfold fillF
    rw [if_pos (.inl (Nat.lt_succ_self i))]
   have hv2 : fillF a b i (k + 1) i (k + 1) = (LL a b i (k + 1) : Int) := by
    unfold fillF
    rw [if_pos (.inr ⟨rfl, Nat.le_refl _⟩)]
   rw [hv, hv2, mx_eq]
   have e : (tab (a.length + 1) (b.length + 1) fun j l => if j = i ∧ l = k then ((max (LL a b (i + 1) k) (LL a b i (k + 1)) : Nat) : Int) else fillF a b i (k + 1) j l) = tab (a.length + 1) (b.length + 1) (fillF a b i k) := by
    apply tab_congr
    intro j hj l hl
    by_cases c : j = i ∧ l = k
    ·obtain ⟨rfl, rfl⟩ := c
     rw [if_pos ⟨rfl, rfl⟩]
     unfold fillF
     rw [if_pos (.inr ⟨rfl, Nat.le_refl _⟩), hs]
    ·rw [if_neg c]
     unfold fillF
     by_cases c2 : i < j ∨ (i = j ∧ k + 1 ≤ l)
     ·rw [if_pos c2, if_pos (by omega)]
     ·rw [if_neg c2, if_neg (by omega)]
   rw [e]
   exact ih (by omega)
def tableOf (a b : List ByteArray) : List (List Int) := tab (a.length + 1) (b.length + 1) fun i k => (LL a b i k : Int)
theorem fill_all (a b : List ByteArray) : tab (a.length + 1) (b.length + 1) (fillF a b 0 0) = tableOf a b := by
 apply tab_congr
 intro i _ k _
 unfold fillF
 rw [if_pos (by omega)]
theorem table_l1 (a b : List ByteArray) (ha : a.length ≤ 60) (hb : b.length ≤ 60) : ∀ n, n ≤ a.length → Ev (fun k => lcs_table.l1 k a b (tab (a.length + 1) (b.length + 1) (fillF a b n 0)) ((n : Int) - 1)) (tableOf a b) := by
 intro n
 induction n with
 | zero =>
  intro _
  refine Ev.step (fun k => by rw [lcs_table.l1]) ?_
  exact Ev.neg (by omega) (Ev.rt (fill_all a b))
 | succ n ih =>
  intro hn
  have e0 : ((n + 1 : Nat) : Int) - 1 = (n : Int) := by omega
  rw [e0]
  refine Ev.step (fun k => by rw [lcs_table.l1]) ?_
  refine Ev.pos (by omega) ?_
  rw [w64 (by omega), ← fill_end a b n]
  exact table_l2 a b ha hb n (by omega) (tableOf a b) (ih (by omega)) b.length (Nat.le_refl _)
theorem table_l0 (a b : List ByteArray) (ha : a.length ≤ 60) (hb : b.length ≤ 60) : ∀ (d i : Nat), i + d = a.length + 1 →
  Ev (fun k => lcs_table.l0 k a b (List.replicate i (List.replicate (b.length + 1) 0) ++ List.replicate d []) ((a.length + 1 : Nat) : Int) (i : Int)) (tableOf a b) := by
 intro d
 induction d with
 | zero =>
  intro i hi
  obtain rfl : i = a.length + 1 := by omega
  refine Ev.step (fun k => by rw [lcs_table.l0]) ?_
  refine Ev.neg (by omega) ?_
  rw [w64 (by omega)]
  have e : (List.replicate (a.length + 1) (List.replicate (b.length + 1) (0 : Int)) ++ List.replicate 0 []) = tab (a.length + 1) (b.length + 1) (fillF a b a.length 0) := by
   have z : tab (a.length + 1) (b.length + 1) (fillF a b a.length 0) = tab (a.length + 1) (b.length + 1) (fun _ _ => 0) := by
    apply tab_congr
    intro j hj l hl
    unfold fillF
    split
    ·rw [LL_end_left a b j l (by omega)]
     rfl
    ·rfl
   rw [z, List.replicate_zero, List.append_nil]
   show _ = (List.range (a.length + 1)).map (fun _ => (List.range (b.length + 1)).map (fun _ => (0 : Int)))
   rw [List.map_const', List.map_const', List.length_range, List.length_range]
  rw [e]
  exact table_l1 a b ha hb a.length (Nat.le_refl _)
 | succ d ih =>
  intro i hi
  refine Ev.step (fun k => by rw [lcs_table.l0]) ?_
  rw [w64 (x := (b.length : Int) + 1) (by omega), w64 (x := (i : Int) + 1) (by omega)]
  have hl : (List.replicate i (List.replicate (b.length + 1) (0 : Int)) ++ List.replicate (d + 1) []).length = a.length + 1 := by simp; omega
  rw [hl]
  refine Ev.pos (by omega) (Ev.pos (by omega) (Ev.pos (by omega) (Ev.pos (by omega) (Ev.pos (by omega) ?_))))
  have e1 : ((b.length : Int) + 1).toNat = b.length + 1 := by omega
  rw [e1, Int.toNat_natCast]
  have e : (List.replicate i (List.replicate (b.length + 1) (0 : Int)) ++ List.replicate (d + 1) []).set i (List.replicate (b.length + 1) 0) = List.replicate (i + 1) (List.replicate (b.length + 1) (0 : Int)) ++ List.replicate d [] := by
   generalize List.replicate (b.length + 1) (0 : Int) = z
   rw [List.set_append_right _ _ (by simp), List.length_replicate, Nat.sub_self, List.replicate_succ (n := d), List.set_cons_zero, List.replicate_succ' (n := i), List.append_assoc]
   rfl
  rw [e]
  have := ih (i + 1) (by omega)
  simpa using this
theorem table_ev (a b : List ByteArray) (ha : a.length ≤ 60) (hb : b.length ≤ 60) : Ev (fun k => lcs_table.f k a b) (tableOf a b) := by
 unfold lcs_table.f
 rw [w64 (x := (a.length : Int) + 1) (by omega)]
 have e1 : ((a.length : Int) + 1).toNat = a.length + 1 := by omega
 rw [e1]
 refine Ev.pos (by omega) (Ev.pos (by omega) (Ev.bs ?_))
 have := table_l0 a b ha hb (a.length + 1) 0 (by omega)
 rw [List.length_replicate]
 simpa using this
theorem tableOf_at (a b : List ByteArray) (i k : Nat) (h : i ≤ a.length) (h2 : k ≤ b.length) : rd (rd_Li64 (tableOf a b) (i : Int)) (k : Int) = (LL a b i k : Int) := tab_at _ _ _ i k (by omega) (by omega)
theorem tableOf_row (a b : List ByteArray) (i : Nat) (h : i ≤ a.length) : (rd_Li64 (tableOf a b) (i : Int)).length = b.length + 1 := tab_row_length _ _ _ i (by omega)
theorem tableOf_length (a b : List ByteArray) : (tableOf a b).length = a.length + 1 := tab_length _ _ _
theorem next_l1 (a b : List ByteArray) (ha : a.length ≤ 60) (hb : b.length ≤ 60) (i0 k0 : Nat) (hp : 0 < LL a b i0 k0) (p : Nat × Nat) (hf : First a b i0 k0 p) : ∀ (n i k : Nat), i0 ≤ i → i ≤ p.1 → k0 ≤ k → k ≤ b.length → (i = p.1 → k ≤ p.2) → (p.1 - i) * 1000 + (b.length - k) = n →
  Ev (fun m => lcs_next.l1 m a b (tableOf a b) (i : Int) (k0 : Int) (LL a b i0 k0 : Int) (k : Int)) ((p.1 : Int), (p.2 : Int)) := by
 obtain ⟨⟨g1, g2, g3, g4, g5, g6⟩, hmin⟩ := hf
 have hle := lcsLen_le_left (a.drop i0) (b.drop k0)
 rw [List.length_drop] at hle
 have hle' : LL a b i0 k0 ≤ 60 := by unfold LL; omega
 intro n
 induction n using Nat.strongRecOn with
 | _ n ih =>
  intro i k hi hip hk hkb hpk hn
  refine Ev.step (fun m => by rw [lcs_next.l1]) ?_
  by_cases hlt : k < b.length
  ·have hia : i < a.length := by omega
   have hnext : ∀ (hne : ¬ (i = p.1 ∧ k = p.2)), Ev (fun m => lcs_next.l1 m a b (tableOf a b) (i : Int) (k0 : Int) (LL a b i0 k0 : Int) (((k + 1 : Nat)) : Int)) ((p.1 : Int), (p.2 : Int)) := fun hne => ih ((p.1 - i) * 1000 + (b.length - (k + 1))) (by omega) i (k + 1) hi hip (by omega) (by omega) (by omega) rfl
   have ci : ((i : Int) + 1) = ((i + 1 : Nat) : Int) := by omega
   have ck : ((k : Int) + 1) = ((k + 1 : Nat) : Int) := by omega
   rw [w64 (x := (i : Int) + 1) (by omega), w64 (x := (k : Int) + 1) (by omega), w64 (x := (LL a b i0 k0 : Int) - 1) (by omega), rdOf_at _ a i hia, rdOf_at _ b k hlt, ci, ck, tableOf_length, tableOf_row a b (i + 1) (by omega), tableOf_at a b (i + 1) (k + 1) (by omega) (by omega)]
   refine Ev.pos (by omega) (Ev.pos (by omega) (Ev.pos (by omega) (Ev.pos (by omega) ?_)))
   by_cases he : a[i] = b[k]
   ·refine Ev.pos (toList_inj.2 he) (Ev.pos (by omega) (Ev.pos (by omega) (Ev.pos (by omega) (Ev.pos (by omega) ?_))))
    by_cases hw : LL a b (i + 1) (k + 1) + 1 = LL a b i0 k0
    ·have hg : Good a b i0 k0 i k := ⟨hi, hk, hia, hlt, he, hw⟩
     have := hmin (i, k) hg
     simp only [lexLt] at this
     have e1 : i = p.1 := by omega
     have e2 : k = p.2 := by omega
     refine Ev.pos (by omega) (Ev.rt ?_)
     rw [e1, e2]
    ·refine Ev.neg (by omega) (hnext ?_)
     rintro ⟨rfl, rfl⟩
     exact hw g6
   ·refine Ev.neg (fun e => he (toList_inj.1 e)) (hnext ?_)
    rintro ⟨rfl, rfl⟩
    exact he g5
  ·refine Ev.neg (by omega) ?_
   have hne : i ≠ p.1 := fun e => by have := hpk e; omega
   rw [w64 (by omega)]
   have ci : ((i : Int) + 1) = ((i + 1 : Nat) : Int) := by omega
   rw [ci]
   refine Ev.step (fun m => by rw [lcs_next.l0]) ?_
   exact ih ((p.1 - (i + 1)) * 1000 + (b.length - k0)) (by omega) (i + 1) k0 (by omega) (by omega) (Nat.le_refl _) (by omega) (fun e => g2) rfl
theorem next_ev (a b : List ByteArray) (ha : a.length ≤ 60) (hb : b.length ≤ 60) (i k : Nat) (hi : i ≤ a.length) (hk : k ≤ b.length) (p : Nat × Nat) (hf : First a b i k p) : Ev (fun m => lcs_next.f m a b (tableOf a b) (i : Int) (k : Int)) ((p.1 : Int), (p.2 : Int)) := by
 unfold lcs_next.f
 rw [tableOf_length, tableOf_row a b i hi, tableOf_at a b i k hi hk]
 refine Ev.pos (by omega) (Ev.pos (by omega) (Ev.pos (by omega) (Ev.pos (by omega) ?_)))
 refine Ev.step (fun m => by rw [lcs_next.l0]) ?_
 have h1 := hf.1.1
 have h2 := hf.1.2.1
 exact next_l1 a b ha hb i k hf.pos p hf _ i k (Nat.le_refl _) h1 (Nat.le_refl _) hk (fun _ => h2) rfl
def prOf (p : Nat × Nat) : S49 := ⟨(p.1 : Int), (p.2 : Int)⟩
theorem best_l0 (a b : List ByteArray) (ha : a.length ≤ 60) (hb : b.length ≤ 60) : ∀ (m : List (Nat × Nat)) (i k : Nat), Greedy a b i k m → i ≤ a.length → k ≤ b.length → ∀ acc : List S49, acc.length + m.length ≤ 100 →
  Ev (fun n => lcs_Best.l0 n a b (tableOf a b) acc (i : Int) (k : Int)) (acc ++ m.map prOf, (0 : Int)) := by
 intro m
 induction m with
 | nil =>
  intro i k hg hi hk acc _
  have h0 : LL a b i k = 0 := by
   cases hg with
   | nil _ _ h => exact h
  refine Ev.step (fun n => by rw [lcs_Best.l0]) ?_
  rw [tableOf_length, tableOf_row a b i hi, tableOf_at a b i k hi hk, h0]
  refine Ev.pos (by omega) (Ev.pos (by omega) (Ev.pos (by omega) (Ev.pos (by omega) (Ev.neg (by decide) (Ev.rt ?_)))))
  simp
 | cons p m ih =>
  intro i k hg hi hk acc hl
  cases hg with
  | cons _ _ _ _ hf hm =>
   obtain ⟨g1, g2, g3, g4, g5, g6⟩ := hf.1
   have hp := hf.pos
   refine Ev.step (fun n => by rw [lcs_Best.l0]) ?_
   rw [tableOf_length, tableOf_row a b i hi, tableOf_at a b i k hi hk]
   refine Ev.pos (by omega) (Ev.pos (by omega) (Ev.pos (by omega) (Ev.pos (by omega) (Ev.pos (by omega) (Ev.bd (next_ev a b ha hb i k hi hk p hf) (Ev.pos (by simp only [List.length_cons] at hl; omega) ?_))))))
   rw [w64 (x := (p.1 : Int) + 1) (by omega), w64 (x := (p.2 : Int) + 1) (by omega)]
   have := ih (p.1 + 1) (p.2 + 1) hm (by omega) (by omega) (acc ++ [prOf p]) (by simp only [List.length_append, List.length_cons, List.length_nil] at hl ⊢; omega)
   simpa [prOf] using this
noncomputable def bestOf (a b : List ByteArray) : List (Nat × Nat) := Classical.choose (Greedy.ex a b _ 0 0 rfl)
theorem bestOf_greedy (a b : List ByteArray) : Greedy a b 0 0 (bestOf a b) := (Classical.choose_spec (Greedy.ex a b _ 0 0 rfl)).1
theorem bestOf_length (a b : List ByteArray) : (bestOf a b).length = lcsLen a b := by
 have := (bestOf_greedy a b).length
 simpa [LL] using this
theorem best_ev (a b : List ByteArray) (ha : small a) (hb : small b) : Ev (fun n => lcs_Best.f n a b) (if bothErr a b = 0 then ((bestOf a b).map prOf, (0 : Int)) else (([] : List S49), bothErr a b)) := by
 unfold lcs_Best.f
 refine Ev.bc (lcheck_val a b ha hb) ?_
 by_cases h : bothErr a b = 0
 ·rw [if_pos h]
  obtain ⟨h1, h2⟩ := bothErr_zero.1 h
  obtain ⟨l1, _⟩ := linesErr_zero h1
  obtain ⟨l2, _⟩ := linesErr_zero h2
  refine Ev.pos h (Ev.bd (table_ev a b l1 l2) ?_)
  have hl := bestOf_length a b
  have hl2 := lcsLen_le_left a b
  have := best_l0 a b l1 l2 (bestOf a b) 0 0 (bestOf_greedy a b) (Nat.zero_le _) (Nat.zero_le _) [] (by simp only [List.length_nil]; omega)
  simpa using this
 ·exact Ev.neg h (Ev.rt (if_neg h).symm)
end Go.Proofs.YtognfinkolpemaaDoor.Pr
end
section
namespace Go.Proofs.YtognfinkolpemaaDoor.Pr
open Go.RowKit Go.Proofs.YtognfinkolpemaaDoorW.PrintWords Go.Proofs.YtognfinkolpemaaDoorW.PrintLast Go.Proofs.YtognfinkolpemaaDoorW.PrintMore
theorem both_ev (a b : List ByteArray) (ha : tiny a) (hb : tiny b) : Ev (fun k => sidingref14_Both.f k a b) (bothErr a b) := by
 unfold sidingref14_Both.f bothErr
 refine Ev.bd (rlines_ev a ha) ?_
 by_cases h : linesErr a = 0
 ·rw [if_pos h]
  exact Ev.pos h (Ev.bd (rlines_ev b hb) (Ev.now _))
 ·exact Ev.neg h (Ev.bd (rlines_ev a ha) (Ev.rt (if_neg h).symm))
end Go.Proofs.YtognfinkolpemaaDoor.Pr
end
section
namespace Go.Proofs.YtognfinkolpemaaDoor.Pr
open Go.RowKit Go.Proofs.YtognfinkolpemaaDoorW.PrintWords Go.Proofs.YtognfinkolpemaaDoorW.PrintLast Go.Proofs.YtognfinkolpemaaDoorW.PrintMore
theorem rd_h (l : List S36) (i : Nat) (h : i < l.length) : rd_T36 l (i : Int) = l[i] := by simp [rd_T36, h]
def plainL (l : List ByteArray) : Bool := decide (l.length ≤ 60) && !l.any widey
theorem plain_val (l : List ByteArray) : hunk_plain.f l = some (plainL l) := rfl
theorem any_wide (l : List ByteArray) : l.any widey = (l.any (fun s => decide (2000 < s.size)) || l.any feedy) := by
 induction l with
 | nil => rfl
 | cons s l ih =>
  simp only [List.any_cons, ih, widey]
  cases decide (2000 < s.size) <;> cases feedy s <;> cases l.any (fun s => decide (2000 < s.size)) <;> rfl
def validH (h : S36) : Bool := decide (0 ≤ h.f0) && decide (h.f0 ≤ 60) && plainL h.f1 && plainL h.f2 && decide (0 < h.f1.length + h.f2.length)
theorem validH_true {h : S36} (hv : validH h = true) : 0 ≤ h.f0 ∧ h.f0 ≤ 60 ∧ plainL h.f1 = true ∧ plainL h.f2 = true ∧ h.f1.length ≤ 60 ∧ h.f2.length ≤ 60 ∧ 0 < h.f1.length + h.f2.length := by
 simp only [validH, Bool.and_eq_true, decide_eq_true_eq] at hv
 obtain ⟨⟨⟨⟨h1, h2⟩, h3⟩, h4⟩, h5⟩ := hv
 refine ⟨h1, h2, h3, h4, ?_, ?_, h5⟩
 ·simp only [plainL, Bool.and_eq_true, decide_eq_true_eq] at h3
  exact h3.1
 ·simp only [plainL, Bool.and_eq_true, decide_eq_true_eq] at h4
  exact h4.1
theorem plainL_len {l : List ByteArray} (h : plainL l = true) : l.length ≤ 60 := by
 simp only [plainL, Bool.and_eq_true, decide_eq_true_eq] at h
 exact h.1
theorem valid_val (h : S36) : hunk_valid.f h.f0 h.f1 h.f2 = some (validH h) := by
 unfold hunk_valid.f validH
 rw [plain_val, plain_val]
 by_cases h1 : h.f0 ≥ 0
 ·by_cases h2 : h.f0 ≤ 60
  ·rw [if_pos h1, if_pos h2, decide_eq_true (show 0 ≤ h.f0 from h1), decide_eq_true h2]
   cases h3 : plainL h.f1 with
   | false => rfl
   | true =>
    cases h4 : plainL h.f2 with
    | false => rfl
    | true =>
     have := plainL_len h3
     have := plainL_len h4
     simp only [Option.bind_some, if_true, Bool.true_and, Option.some.injEq]
     rw [w64 (by omega), Bool.eq_iff_iff, decide_eq_true_iff, decide_eq_true_iff]
     omega
  ·rw [if_pos h1, if_neg h2, decide_eq_false h2, Bool.and_false]
   simp
 ·rw [if_neg h1, decide_eq_false (show ¬ 0 ≤ h.f0 from h1)]
  simp
def tinyH (h : S36) : Prop := tiny h.f1 ∧ tiny h.f2 ∧ h.f1.length ≤ 1000000 ∧ h.f2.length ≤ 1000000
def chkFrom : Int → List S36 → Int
 | _, [] => 0
 | free, h :: l => if validH h = true then (if h.f0 < free then 8 else chkFrom (h.f0 + (h.f1.length : Int) + 1) l) else 8
theorem chk_cons {free : Int} {h : S36} {l : List S36} (hc : chkFrom free (h :: l) = 0) : validH h = true ∧ free ≤ h.f0 ∧ chkFrom (h.f0 + (h.f1.length : Int) + 1) l = 0 := by
 unfold chkFrom at hc
 split at hc
 ·rename_i hv
  split at hc
  ·cases hc
  ·exact ⟨hv, by omega, hc⟩
 ·cases hc
def checkL (l : List S36) : Int := if 40 < l.length then 4 else chkFrom 0 l
theorem checkL_zero {l : List S36} (h : checkL l = 0) : l.length ≤ 40 ∧ chkFrom 0 l = 0 := by
 unfold checkL at h
 split at h
 ·cases h
 ·exact ⟨by omega, h⟩
theorem chk_valid : ∀ {l : List S36} {free : Int}, chkFrom free l = 0 → ∀ h ∈ l, validH h = true
 | [], _, _, _, hm => by cases hm
 | x :: l, free, hc, h, hm => by
  obtain ⟨h1, _, h3⟩ := chk_cons hc
  rcases List.mem_cons.1 hm with rfl | hm
  ·exact h1
  ·exact chk_valid h3 h hm
theorem hcheck_loop (l : List S36) (hl : l.length ≤ 40) : ∀ (d i : Nat) (free : Int), i + d = l.length →
  Ev (fun k => hunk_Check.l0 k free l (l.length : Int) (i : Int)) (chkFrom free (l.drop i)) := by
 intro d
 induction d with
 | zero =>
  intro i free hi
  obtain rfl : i = l.length := by omega
  refine Ev.step (fun k => by rw [hunk_Check.l0]) ?_
  refine Ev.neg (by omega) (Ev.rt ?_)
  rw [List.drop_length]
  rfl
 | succ d ih =>
  intro i free hi
  have h : i < l.length := by omega
  refine Ev.step (fun k => by rw [hunk_Check.l0]) ?_
  refine Ev.pos (by omega) (Ev.pos (by omega) (Ev.pos (by omega) ?_))
  rw [rd_h _ _ h, drop_at l i h, valid_val]
  refine Ev.bs ?_
  unfold chkFrom
  cases hv : validH l[i] with
  | false => exact Ev.neg (by decide) (Ev.rt (by simp))
  | true =>
   obtain ⟨v1, v2, _, _, v3, v4, _⟩ := validH_true hv
   refine Ev.pos rfl ?_
   rw [if_pos rfl]
   by_cases hf : l[i].f0 < free
   ·exact Ev.pos hf (Ev.rt (by rw [if_pos hf]))
   ·refine Ev.neg hf ?_
    rw [if_neg hf, w64 (x := l[i].f0 + (l[i].f1.length : Int)) (by omega), w64 (by omega), w64 (by omega)]
    exact ih (i + 1) _ (by omega)
theorem hcheck_ev (l : List S36) : Ev (fun k => hunk_Check.f k l) (checkL l) := by
 unfold hunk_Check.f checkL
 by_cases h : 40 < l.length
 ·exact Ev.pos (by omega) (Ev.rt (by rw [if_pos h]))
 ·refine Ev.neg (by omega) ?_
  rw [if_neg h]
  exact hcheck_loop l (by omega) l.length 0 0 (by omega)
def fitsAt (a : List ByteArray) (h : S36) : Bool := decide (h.f0 + (h.f1.length : Int) ≤ (a.length : Int)) && decide ((a.take (h.f0 + (h.f1.length : Int)).toNat).drop h.f0.toNat = h.f1)
def fitsL (a : List ByteArray) (l : List S36) : Bool := l.all (fitsAt a)
def putL (a : List ByteArray) : Nat → List S36 → List Int → List ByteArray
 | at_, h :: l, p :: pl => (a.take p.toNat).drop at_ ++ h.f2 ++ putL a (p.toNat + h.f1.length) l pl
 | at_, _, _ => a.drop at_
def inOrd (a : List ByteArray) : Nat → List S36 → List Int → Prop
 | at_, h :: l, p :: pl => (at_ : Int) ≤ p ∧ p + (h.f1.length : Int) ≤ (a.length : Int) ∧ inOrd a (p.toNat + h.f1.length) l pl
 | at_, [], [] => at_ ≤ a.length
 | _, _, _ => False
def applL (a : List ByteArray) (l : List S36) : List ByteArray := putL a 0 l (l.map (·.f0))
theorem inOrd_le {a : List ByteArray} : ∀ {l : List S36} {at_ : Nat} {pl : List Int}, inOrd a at_ l pl → at_ ≤ a.length
 | [], _, [], h => h
 | h :: l, at_, p :: pl, ⟨h1, h2, _⟩ => by omega
theorem inOrd_of {a : List ByteArray} : ∀ {l : List S36} {free : Int} {at_ : Nat}, chkFrom free l = 0 → fitsL a l = true → (at_ : Int) ≤ free → at_ ≤ a.length → inOrd a at_ l (l.map (·.f0))
 | [], _, _, _, _, _, ha => ha
 | h :: l, free, at_, hc, hf, hle, ha => by
  obtain ⟨h1, h2, h3⟩ := chk_cons hc
  obtain ⟨v1, v2, _, _, v3, v4, _⟩ := validH_true h1
  unfold fitsL at hf
  rw [List.all_cons, Bool.and_eq_true] at hf
  have hfa := hf.1
  unfold fitsAt at hfa
  rw [Bool.and_eq_true, decide_eq_true_eq] at hfa
  exact ⟨(by show (at_ : Int) ≤ h.f0; omega), hfa.1, inOrd_of h3 hf.2 (by show ((h.f0.toNat + h.f1.length : Nat) : Int) ≤ _; omega) (by show h.f0.toNat + h.f1.length ≤ a.length; omega)⟩
instance decH : DecidableEq S36 := fun x y => decidable_of_iff (x.f0 = y.f0 ∧ x.f1 = y.f1 ∧ x.f2 = y.f2) (by cases x; cases y; simp)
end Go.Proofs.YtognfinkolpemaaDoor.Pr
end
section
namespace Go.Proofs.YtognfinkolpemaaDoor.Pr
open Go.RowKit Go.Proofs.YtognfinkolpemaaDoorW.PrintWords Go.Proofs.YtognfinkolpemaaDoorW.PrintLast Go.Proofs.YtognfinkolpemaaDoorW.PrintMore
theorem rplain_loop (l : List ByteArray) (ht : tiny l) (hl : l.length ≤ 1000000) : ∀ (d i : Nat), i + d = l.length →
  Ev (fun k => sidingref15_Plain.l0 k l (i : Int)) (!(l.drop i).any (fun s => decide (2000 < s.size)) && (decide (l.length ≤ 60) && !l.any feedy)) := by
 intro d
 induction d with
 | zero =>
  intro i hi
  obtain rfl : i = l.length := by omega
  refine Ev.step (fun k => by rw [sidingref15_Plain.l0]) ?_
  refine Ev.neg (by omega) ?_
  rw [List.drop_length]
  by_cases h : l.length ≤ 60
  ·refine Ev.pos (by omega) (Ev.bc (feed_ev l ht) (Ev.rt ?_))
   simp [h]
  ·refine Ev.neg (by omega) (Ev.rt ?_)
   simp [h]
 | succ d ih =>
  intro i hi
  have h : i < l.length := by omega
  refine Ev.step (fun k => by rw [sidingref15_Plain.l0]) ?_
  refine Ev.pos (by omega) (Ev.pos (by omega) ?_)
  rw [rdOf_at _ _ _ h, drop_at l i h, List.any_cons]
  by_cases h3 : 2000 < l[i].size
  ·exact Ev.pos (by omega) (Ev.rt (by simp [h3]))
  ·refine Ev.neg (by omega) ?_
   rw [w64 (by omega)]
   have := ih (i + 1) (by omega)
   simpa [h3] using this
theorem rplain_ev (l : List ByteArray) (ht : tiny l) (hl : l.length ≤ 1000000) : Ev (fun k => sidingref15_Plain.f k l) (plainL l) := by
 unfold sidingref15_Plain.f
 have h := rplain_loop l ht hl l.length 0 (by omega)
 refine Ev.eq ?_ h
 rw [plainL, any_wide, List.drop_zero]
 cases l.any (fun s => decide (2000 < s.size)) <;> cases decide (l.length ≤ 60) <;> cases l.any feedy <;> rfl
theorem rvalid_ev (h : S36) (ht : tinyH h) : Ev (fun k => sidingref15_Valid.f k h.f0 h.f1 h.f2) (validH h) := by
 unfold sidingref15_Valid.f validH
 by_cases h1 : h.f0 ≥ 0
 ·refine Ev.pos h1 ?_
  rw [decide_eq_true (show 0 ≤ h.f0 from h1)]
  by_cases h2 : h.f0 ≤ 60
  ·refine Ev.pos h2 (Ev.bd (rplain_ev _ ht.1 ht.2.2.1) ?_)
   rw [decide_eq_true h2]
   cases h3 : plainL h.f1 with
   | false => exact Ev.neg (by decide) (Ev.rt rfl)
   | true =>
    refine Ev.pos rfl (Ev.bd (rplain_ev _ ht.2.1 ht.2.2.2) ?_)
    cases h4 : plainL h.f2 with
    | false => exact Ev.neg (by decide) (Ev.rt rfl)
    | true =>
     refine Ev.pos rfl ?_
     by_cases h5 : 0 < h.f1.length
     ·exact Ev.pos (by omega) (Ev.rt (by simp; omega))
     ·refine Ev.neg (by omega) (Ev.rt ?_)
      simp only [Bool.true_and]
      rw [Bool.eq_iff_iff, decide_eq_true_iff, decide_eq_true_iff]
      omega
  ·exact Ev.neg h2 (Ev.rt (by simp [h2]))
 ·exact Ev.neg h1 (Ev.rt (by simp [show ¬ 0 ≤ h.f0 from h1]))
def freeAt (l : List S36) (i : Nat) : Int := if h : 0 < i ∧ i - 1 < l.length then l[i - 1].f0 + (l[i - 1].f1.length : Int) + 1 else 0
theorem rcheck_loop (l : List S36) (hl : l.length ≤ 40) (ht : ∀ h ∈ l, tinyH h) : ∀ (d i : Nat), i + d = l.length → (∀ j (hj : j < l.length), j < i → validH l[j] = true) →
  Ev (fun k => sidingref15_Check.l0 k l (i : Int)) (chkFrom (freeAt l i) (l.drop i)) := by
 intro d
 induction d with
 | zero =>
  intro i hi _
  obtain rfl : i = l.length := by omega
  refine Ev.step (fun k => by rw [sidingref15_Check.l0]) ?_
  refine Ev.neg (by omega) (Ev.rt ?_)
  rw [List.drop_length]
  rfl
 | succ d ih =>
  intro i hi hpre
  have h : i < l.length := by omega
  refine Ev.step (fun k => by rw [sidingref15_Check.l0]) ?_
  refine Ev.pos (by omega) (Ev.pos (by omega) ?_)
  rw [rd_h _ _ h, drop_at l i h]
  refine Ev.bd (rvalid_ev _ (ht _ (List.getElem_mem h))) ?_
  unfold chkFrom
  cases hv : validH l[i] with
  | false => exact Ev.neg (by decide) (Ev.rt (by simp))
  | true =>
   obtain ⟨v1, v2, _, _, v3, v4, _⟩ := validH_true hv
   refine Ev.pos rfl ?_
   rw [if_pos rfl]
   have hpre' : ∀ j (hj : j < l.length), j < i + 1 → validH l[j] = true := fun j hj hji => by
    by_cases e : j = i
    ·subst e; exact hv
    ·exact hpre j hj (by omega)
   have hnext := ih (i + 1) (by omega) hpre'
   have hfree : freeAt l (i + 1) = l[i].f0 + (l[i].f1.length : Int) + 1 := by
    unfold freeAt
    rw [dif_pos ⟨by omega, by simpa using h⟩]
    simp
   rw [hfree] at hnext
   by_cases hi0 : 0 < i
   ·obtain ⟨j, rfl⟩ : ∃ j, i = j + 1 := ⟨i - 1, by omega⟩
    have hj : j < l.length := by omega
    have hvj := hpre j hj (by omega)
    obtain ⟨u1, u2, _, _, u3, u4, _⟩ := validH_true hvj
    have hfj : freeAt l (j + 1) = l[j].f0 + (l[j].f1.length : Int) + 1 := by
     unfold freeAt
     rw [dif_pos ⟨by omega, by simpa using hj⟩]
     simp
    rw [hfj]
    have ew : wrap64 (((j + 1 : Nat) : Int) - 1) = (j : Int) := by rw [w64 (by omega)]; omega
    refine Ev.pos (by omega) ?_
    rw [ew]
    refine Ev.pos (by omega) (Ev.pos (by omega) ?_)
    rw [rd_h _ _ hj, w64 (x := l[j].f0 + (l[j].f1.length : Int)) (by omega)]
    by_cases hf : l[j + 1].f0 < l[j].f0 + (l[j].f1.length : Int) + 1
    ·exact Ev.pos (by omega) (Ev.rt (by rw [if_pos hf]))
    ·refine Ev.neg (by omega) ?_
     rw [if_neg hf, w64 (by omega)]
     exact hnext
   ·obtain rfl : i = 0 := by omega
    have hf0 : freeAt l 0 = 0 := by simp [freeAt]
    rw [hf0, if_neg (by omega)]
    refine Ev.neg (by simp) ?_
    rw [w64 (by simp)]
    exact hnext
theorem rcheck_ev (l : List S36) (ht : ∀ h ∈ l, tinyH h) : Ev (fun k => sidingref15_Check.f k l) (checkL l) := by
 unfold sidingref15_Check.f checkL
 by_cases h : 40 < l.length
 ·exact Ev.pos (by omega) (Ev.rt (by rw [if_pos h]))
 ·refine Ev.neg (by omega) ?_
  rw [if_neg h]
  have := rcheck_loop l (by omega) ht l.length 0 (by omega) (fun j _ hj => absurd hj (Nat.not_lt_zero _))
  simpa [freeAt] using this
end Go.Proofs.YtognfinkolpemaaDoor.Pr
end
section
namespace Go.Proofs.YtognfinkolpemaaDoor.Pr
open Go.RowKit Go.Proofs.YtognfinkolpemaaDoorW.PrintWords Go.Proofs.YtognfinkolpemaaDoorW.PrintLast Go.Proofs.YtognfinkolpemaaDoorW.PrintMore
theorem fits_loop (a : List ByteArray) (l : List S36) (ha : a.length ≤ 1000000) (hl : l.length ≤ 1000000) (hv : ∀ h ∈ l, 0 ≤ h.f0 ∧ h.f0 ≤ 1000000 ∧ h.f1.length ≤ 1000000) : ∀ (d i : Nat), i + d = l.length →
  Ev (fun k => sidingref15_Fits.l0 k a l (i : Int)) (fitsL a (l.drop i)) := by
 intro d
 induction d with
 | zero =>
  intro i hi
  obtain rfl : i = l.length := by omega
  refine Ev.step (fun k => by rw [sidingref15_Fits.l0]) ?_
  refine Ev.neg (by omega) (Ev.rt ?_)
  rw [List.drop_length]
  rfl
 | succ d ih =>
  intro i hi
  have h : i < l.length := by omega
  obtain ⟨v1, v2, v3⟩ := hv _ (List.getElem_mem h)
  refine Ev.step (fun k => by rw [sidingref15_Fits.l0]) ?_
  refine Ev.pos (by omega) (Ev.pos (by omega) ?_)
  rw [rd_h _ _ h, drop_at l i h, w64 (x := l[i].f0 + (l[i].f1.length : Int)) (by omega)]
  unfold fitsL
  rw [List.all_cons]
  unfold fitsAt
  by_cases hf : l[i].f0 + (l[i].f1.length : Int) ≤ (a.length : Int)
  ·refine Ev.neg (by omega) (Ev.pos v1 (Ev.pos (by omega) (Ev.pos hf (Ev.bd (same_ev _ _ (by rw [List.length_drop, List.length_take]; omega)) ?_))))
   rw [decide_eq_true hf, Bool.true_and]
   by_cases hs : (a.take (l[i].f0 + (l[i].f1.length : Int)).toNat).drop l[i].f0.toNat = l[i].f1
   ·rw [decide_eq_true hs, Bool.true_and]
    refine Ev.pos rfl ?_
    rw [w64 (by omega)]
    exact ih (i + 1) (by omega)
   ·rw [decide_eq_false hs]
    exact Ev.neg (by decide) (Ev.rt rfl)
  ·refine Ev.pos (by omega) (Ev.rt ?_)
   rw [decide_eq_false hf]
   rfl
theorem fits_ev (a : List ByteArray) (l : List S36) (ha : a.length ≤ 1000000) (hl : l.length ≤ 1000000) (hv : ∀ h ∈ l, 0 ≤ h.f0 ∧ h.f0 ≤ 1000000 ∧ h.f1.length ≤ 1000000) : Ev (fun k => sidingref15_Fits.f k a l) (fitsL a l) := by
 have h := fits_loop a l ha hl hv l.length 0 (by omega)
 rw [List.drop_zero] at h
 exact h
end Go.Proofs.YtognfinkolpemaaDoor.Pr
end
section
namespace Go.Proofs.YtognfinkolpemaaDoor.Pr
open Go.RowKit Go.Proofs.YtognfinkolpemaaDoorW.PrintWords Go.Proofs.YtognfinkolpemaaDoorW.PrintLast Go.Proofs.YtognfinkolpemaaDoorW.PrintMore
theorem applied_loop (a : List ByteArray) (l : List S36) (ha : a.length ≤ 1000000) (hl : l.length ≤ 1000000) (hv : ∀ h ∈ l, h.f2.length ≤ 1000) : ∀ (d i at_ : Nat) (out : List ByteArray), i + d = l.length → out.length ≤ at_ + 1000 * i → inOrd a at_ (l.drop i) ((l.drop i).map (·.f0)) →
  Ev (fun k => sidingref15_Applied.l0 k a l out (at_ : Int) (i : Int)) (out ++ putL a at_ (l.drop i) ((l.drop i).map (·.f0))) := by
 intro d
 induction d with
 | zero =>
  intro i at_ out hi ho hord
  obtain rfl : i = l.length := by omega
  have hat := inOrd_le hord
  refine Ev.step (fun k => by rw [sidingref15_Applied.l0]) ?_
  refine Ev.neg (by omega) (Ev.pos (by omega) (Ev.pos (by omega) ?_))
  rw [Int.toNat_natCast]
  refine Ev.pos (by rw [List.length_drop]; omega) (Ev.rt ?_)
  rw [List.drop_length]
  rfl
 | succ d ih =>
  intro i at_ out hi ho hord
  have h : i < l.length := by omega
  rw [drop_at l i h, List.map_cons] at hord ⊢
  obtain ⟨o1, o2, o3⟩ := hord
  have v4 := hv _ (List.getElem_mem h)
  refine Ev.step (fun k => by rw [sidingref15_Applied.l0]) ?_
  refine Ev.pos (by omega) (Ev.pos (by omega) (Ev.pos (by omega) ?_))
  rw [rd_h _ _ h]
  have hlen : ((a.take l[i].f0.toNat).drop at_).length = l[i].f0.toNat - at_ := by rw [List.length_drop, List.length_take]; omega
  rw [Int.toNat_natCast]
  refine Ev.pos o1 (Ev.pos (by omega) (Ev.pos (by rw [hlen]; omega) (Ev.bs (Ev.pos (by rw [List.length_append, hlen]; omega) ?_))))
  rw [w64 (x := l[i].f0 + (l[i].f1.length : Int)) (by omega), w64 (by omega)]
  have e : l[i].f0 + (l[i].f1.length : Int) = ((l[i].f0.toNat + l[i].f1.length : Nat) : Int) := by omega
  rw [e]
  have := ih (i + 1) (l[i].f0.toNat + l[i].f1.length) (out ++ (a.take l[i].f0.toNat).drop at_ ++ l[i].f2) (by omega) (by rw [List.length_append, List.length_append, hlen]; omega) o3
  refine Ev.eq ?_ this
  simp [putL, List.append_assoc]
theorem applied_ev (a : List ByteArray) (l : List S36) (ha : a.length ≤ 1000000) (hl : l.length ≤ 1000000) (hv : ∀ h ∈ l, h.f2.length ≤ 1000) (hord : inOrd a 0 l (l.map (·.f0))) : Ev (fun k => sidingref15_Applied.f k a l) (applL a l) := by
 have h := applied_loop a l ha hl hv l.length 0 0 [] (by omega) (by simp) (by simpa using hord)
 refine Ev.eq ?_ h
 simp [applL]
end Go.Proofs.YtognfinkolpemaaDoor.Pr
end
section
namespace Go.Proofs.YtognfinkolpemaaDoor.Pr
open Go.RowKit Go.Proofs.YtognfinkolpemaaDoorW.PrintWords Go.Proofs.YtognfinkolpemaaDoorW.PrintLast Go.Proofs.YtognfinkolpemaaDoorW.PrintMore
def pieceL (a b : List ByteArray) (i k p q : Nat) : List S36 := if i < p ∨ k < q then [⟨(i : Int), (a.take p).drop i, (b.take q).drop k⟩] else []
def diffL (a b : List ByteArray) : Nat → Nat → List (Nat × Nat) → List S36
 | i, k, [] => pieceL a b i k a.length b.length
 | i, k, p :: m => pieceL a b i k p.1 p.2 ++ diffL a b (p.1 + 1) (p.2 + 1) m
end Go.Proofs.YtognfinkolpemaaDoor.Pr
end
