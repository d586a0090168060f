/- Part 22 of the proof of MergeApart: texts put together. -/
import Derived.Test.YtahpbpacjciddaaJMergeApart1
import Derived.Test.YtahpbpacjciddaaJMergeApart16
import Derived.Test.YtahpbpacjciddaaJMergeApart17
import Derived.Test.YtahpbpacjciddaaJMergeApart18
import Derived.Test.YtahpbpacjciddaaJMergeApart20
import Derived.Test.YtahpbpacjciddaaJMergeApart21
import Derived.Deep.Slices
import Derived.ChangeSame
import Derived.SizedLaws
set_option linter.unusedVariables false
set_option linter.unusedSimpArgs false
section
namespace Go.Proofs.Ytahpbpacjciddaa.Pr
open Go.RowKit Go.Proofs.YtahpbpacjciddaaW.PrintWords Go.Proofs.YtahpbpacjciddaaW.PrintLast Go.Proofs.YtahpbpacjciddaaW.PrintMore
theorem rd_hunks (m : List S82) (i : Nat) (h : i < m.length) : rd_T82 m (i : Int) = m[i] := by simp [rd_T82, h]
def fillB : List Bool → Nat → Nat → List Bool
 | A, _, 0 => A
 | A, s, d + 1 => fillB (A.set s true) (s + 1) d
theorem fillB_length : ∀ (d s : Nat) (A : List Bool), (fillB A s d).length = A.length
 | 0, _, _ => rfl
 | d + 1, s, A => by rw [fillB, fillB_length d, List.length_set]
theorem set_getD (A : List Bool) (s j : Nat) (hs : s < A.length) : (A.set s true).getD j false = (A.getD j false || decide (j = s)) := by
 rw [List.getD_eq_getElem?_getD, List.getD_eq_getElem?_getD, List.getElem?_set]
 by_cases e : s = j
 ·subst e
  simp [hs]
 ·rw [if_neg e, decide_eq_false (Ne.symm e), Bool.or_false]
theorem fillB_getD : ∀ (d s : Nat) (A : List Bool) (j : Nat), s + d ≤ A.length → (fillB A s d).getD j false = (A.getD j false || decide (s ≤ j ∧ j < s + d))
 | 0, s, A, j, _ => by rw [fillB, decide_eq_false (by omega), Bool.or_false]
 | d + 1, s, A, j, h => by
  rw [fillB, fillB_getD d (s + 1) _ j (by rw [List.length_set]; omega), set_getD A s j (by omega), Bool.or_assoc]
  congr 1
  rw [Bool.eq_iff_iff]
  simp only [Bool.or_eq_true, decide_eq_true_eq]
  omega
def marks : List S82 → List Bool → List Bool → List Bool × List Bool
 | [], A, B => (A, B)
 | h :: l, A, B => marks l (fillB A h.f0.toNat h.f1.length) (if h.f1.length = 0 then B.set h.f0.toNat true else B)
theorem touched_l1 (L : List S82) (i : Nat) (hi : i < L.length) (n : Nat) (hn : n ≤ 1000000) (h0 : 0 ≤ L[i].f0) (h1 : L[i].f0.toNat + L[i].f1.length ≤ n) {r : List Bool × List Bool} (B : List Bool) : ∀ (d c : Nat) (A : List Bool), c + d = L[i].f1.length → A.length = n →
  Ev (fun k => sidingref18_touched.l1 k L (fillB A (L[i].f0.toNat + c) d) B (i : Int) (L[i].f1.length : Int)) r → Ev (fun k => sidingref18_touched.l1 k L A B (i : Int) (c : Int)) r
 | 0, c, A, hc, hA, h => by
  obtain rfl : c = L[i].f1.length := by omega
  exact h
 | d + 1, c, A, hc, hA, h => by
  refine Ev.step (fun k => by rw [sidingref18_touched.l1]) (Ev.pos (by omega) (Ev.pos (by omega) ?_))
  rw [rd_hunks L i hi]
  have e : wrap64 (L[i].f0 + (c : Int)) = ((L[i].f0.toNat + c : Nat) : Int) := by rw [w64 (by omega)]; omega
  rw [e]
  refine Ev.pos (by omega) (Ev.pos (by omega) (Ev.pos (by omega) ?_))
  rw [Int.toNat_natCast, w64 (by omega)]
  exact touched_l1 L i hi n hn h0 h1 B d (c + 1) _ (by omega) (by rw [List.length_set]; exact hA) h
theorem touched_loop (L : List S82) (n : Nat) (hn : n ≤ 1000000) (hl : L.length ≤ 1000000) (hL : ∀ h ∈ L, 0 ≤ h.f0 ∧ h.f0.toNat + h.f1.length ≤ n) : ∀ (d i : Nat) (A B : List Bool), i + d = L.length → A.length = n → B.length = n + 1 → Ev (fun k => sidingref18_touched.l0 k L A B (i : Int)) (marks (L.drop i) A B)
 | 0, i, A, B, hi, hA, hB => by
  obtain rfl : i = L.length := by omega
  rw [List.drop_length]
  refine Ev.step (fun k => by rw [sidingref18_touched.l0]) ?_
  exact Ev.neg (by omega) (Ev.rt rfl)
 | d + 1, i, A, B, hi, hA, hB => by
  have hi' : i < L.length := by omega
  obtain ⟨g0, g1⟩ := hL L[i] (List.getElem_mem hi')
  rw [drop_at L i hi', marks]
  refine Ev.step (fun k => by rw [sidingref18_touched.l0]) (Ev.pos (by omega) ?_)
  refine touched_l1 L i hi' n hn g0 g1 B L[i].f1.length 0 A (by omega) hA ?_
  rw [Nat.add_zero]
  refine Ev.step (fun k => by rw [sidingref18_touched.l1]) (Ev.pos (by omega) (Ev.pos (by omega) ?_))
  rw [rd_hunks L i hi']
  refine Ev.neg (by omega) ?_
  by_cases e : L[i].f1.length = 0
  ·refine Ev.pos (by omega) (Ev.pos (by omega) (Ev.pos (by omega) ?_))
   rw [if_pos e, w64 (by omega)]
   exact touched_loop L n hn hl hL d (i + 1) _ _ (by omega) (by rw [fillB_length]; exact hA) (by rw [List.length_set]; exact hB)
  ·refine Ev.neg (by omega) ?_
   rw [if_neg e, w64 (by omega)]
   exact touched_loop L n hn hl hL d (i + 1) _ _ (by omega) (by rw [fillB_length]; exact hA) hB
theorem marks_length : ∀ (l : List S82) (A B : List Bool), (marks l A B).1.length = A.length ∧ (marks l A B).2.length = B.length
 | [], _, _ => ⟨rfl, rfl⟩
 | h :: l, A, B => by
  obtain ⟨h1, h2⟩ := marks_length l (fillB A h.f0.toNat h.f1.length) (if h.f1.length = 0 then B.set h.f0.toNat true else B)
  rw [marks, h1, h2, fillB_length]
  refine ⟨rfl, ?_⟩
  split
  ·rw [List.length_set]
  ·rfl
theorem marks_getD (n : Nat) : ∀ (l : List S82) (A B : List Bool), A.length = n → B.length = n + 1 → (∀ h ∈ l, 0 ≤ h.f0 ∧ h.f0.toNat + h.f1.length ≤ n) → ∀ j,
  (marks l A B).1.getD j false = (A.getD j false || l.any fun h => decide (h.f0 ≤ (j : Int) ∧ (j : Int) < h.f0 + (h.f1.length : Int))) ∧
  (marks l A B).2.getD j false = (B.getD j false || l.any fun h => decide (h.f0 = (j : Int) ∧ h.f1.length = 0))
 | [], A, B, _, _, _, j => by simp [marks]
 | h :: l, A, B, hA, hB, hl, j => by
  obtain ⟨g0, g1⟩ := hl h List.mem_cons_self
  obtain ⟨h1, h2⟩ := marks_getD n l (fillB A h.f0.toNat h.f1.length) (if h.f1.length = 0 then B.set h.f0.toNat true else B) (by rw [fillB_length]; exact hA) (by
   split
   ·rw [List.length_set]; exact hB
   ·exact hB) (fun x hx => hl x (List.mem_cons_of_mem _ hx)) j
  rw [marks, h1, h2, List.any_cons, List.any_cons, fillB_getD _ _ _ _ (by omega), ← Bool.or_assoc, ← Bool.or_assoc]
  constructor
  ·congr 2
   rw [Bool.eq_iff_iff, decide_eq_true_eq, decide_eq_true_eq]
   omega
  ·congr 1
   by_cases e : h.f1.length = 0
   ·rw [if_pos e, set_getD _ _ _ (by omega)]
    congr 1
    rw [Bool.eq_iff_iff, decide_eq_true_eq, decide_eq_true_eq]
    omega
   ·rw [if_neg e, decide_eq_false (fun h => e h.2), Bool.or_false]
def inOrder (n : Nat) : Nat → List S82 → Prop
 | lo, [] => lo ≤ n
 | lo, h :: l => (lo : Int) ≤ h.f0 ∧ inOrder n (h.f0.toNat + h.f1.length) l
theorem inOrder_mono {n : Nat} : ∀ {l : List S82} {lo hi : Nat}, inOrder n hi l → lo ≤ hi → inOrder n lo l
 | [], _, _, h, hle => by unfold inOrder at h ⊢; omega
 | _ :: _, _, _, h, hle => ⟨by have := h.1; omega, h.2⟩
theorem inOrder_le {n : Nat} : ∀ {l : List S82} {lo : Nat}, inOrder n lo l → lo ≤ n
 | [], _, h => h
 | _ :: _, _, h => by
  have := h.1
  have := inOrder_le h.2
  omega
theorem inOrder_mem {n : Nat} : ∀ {l : List S82} {lo : Nat}, inOrder n lo l → ∀ h ∈ l, 0 ≤ h.f0 ∧ h.f0.toNat + h.f1.length ≤ n
 | [], _, _, _, hm => nomatch hm
 | _ :: _, _, h, x, hm => by
  rcases List.mem_cons.1 hm with rfl | hm
  ·exact ⟨by have := h.1; omega, inOrder_le h.2⟩
  ·exact inOrder_mem h.2 x hm
theorem pieceL_order {a b : List ByteArray} {i k p q : Nat} {l : List S82} (hp : p ≤ a.length) (hip : i ≤ p) (h : inOrder a.length p l) : inOrder a.length i (pieceL a b i k p q ++ l) := by
 by_cases e : i < p ∨ k < q
 ·rw [pieceL_pos e]
  refine ⟨Int.le_refl _, ?_⟩
  have hl : ((a.take p).drop i).length = p - i := by rw [List.length_drop, List.length_take]; omega
  show inOrder a.length ((i : Int).toNat + ((a.take p).drop i).length) l
  rw [hl]
  exact inOrder_mono h (by omega)
 ·rw [pieceL_neg e]
  exact inOrder_mono h hip
theorem diffL_order {a b : List ByteArray} {i k : Nat} {m : List (Nat × Nat)} (h : Match a b i k m) : i ≤ a.length → inOrder a.length i (diffL a b i k m) := by
 induction h with
 | nil i k =>
  intro hi
  rw [diffL_nil, ← List.append_nil (pieceL _ _ _ _ _ _)]
  exact pieceL_order (Nat.le_refl _) hi (Nat.le_refl _)
 | cons i k p m h1 h2 h3 h4 he hm ih =>
  intro hi
  rw [diffL_cons]
  exact pieceL_order (by omega) h1 (inOrder_mono (ih (by omega)) (Nat.le_succ _))
theorem pieceL_any (a b : List ByteArray) {i k p q : Nat} (hp : p ≤ a.length) (hip : i ≤ p) (hkq : k ≤ q) (j : Nat) :
  ((pieceL a b i k p q).any fun h => decide (h.f0 ≤ (j : Int) ∧ (j : Int) < h.f0 + (h.f1.length : Int))) = decide (i ≤ j ∧ j < p) ∧
  ((pieceL a b i k p q).any fun h => decide (h.f0 = (j : Int) ∧ h.f1.length = 0)) = decide (j = i ∧ i = p ∧ k < q) := by
 have hl : ((a.take p).drop i).length = p - i := by rw [List.length_drop, List.length_take]; omega
 by_cases e : i < p ∨ k < q
 ·rw [pieceL_pos e, List.any_cons, List.any_nil, Bool.or_false, List.any_cons, List.any_nil, Bool.or_false]
  simp only [hl]
  constructor
  ·rw [Bool.eq_iff_iff, decide_eq_true_eq, decide_eq_true_eq]
   omega
  ·rw [Bool.eq_iff_iff, decide_eq_true_eq, decide_eq_true_eq]
   omega
 ·rw [pieceL_neg e, List.any_nil, List.any_nil, decide_eq_false (by omega), decide_eq_false (by omega)]
  exact ⟨rfl, rfl⟩
theorem diffL_in {a b : List ByteArray} {i k : Nat} {m : List (Nat × Nat)} (h : Match a b i k m) : i ≤ a.length → k ≤ b.length → ∀ j, j < a.length →
  ((diffL a b i k m).any fun h => decide (h.f0 ≤ (j : Int) ∧ (j : Int) < h.f0 + (h.f1.length : Int))) = (decide (i ≤ j) && (pt m j).isNone) := by
 induction h with
 | nil i k =>
  intro hi hk j hj
  rw [diffL_nil, (pieceL_any a b (Nat.le_refl _) hi hk j).1]
  simp [pt, hj]
 | cons i k p m h1 h2 h3 h4 he hm ih =>
  intro hi hk j hj
  rw [diffL_cons, List.any_append, (pieceL_any a b (Nat.le_of_lt h3) h1 h2 j).1, ih (by omega) (by omega) j hj, pt]
  by_cases e : p.1 = j
  ·rw [if_pos e, decide_eq_false (by omega), decide_eq_false (by omega)]
   simp
  ·rw [if_neg e]
   by_cases e2 : j < p.1
   ·rw [pt_lt hm j (by omega), decide_eq_false (show ¬ p.1 + 1 ≤ j by omega), Bool.false_and, Bool.or_false]
    simp [e2]
   ·rw [decide_eq_false (show ¬ (i ≤ j ∧ j < p.1) by omega), decide_eq_true (show p.1 + 1 ≤ j by omega), decide_eq_true (show i ≤ j by omega), Bool.false_or]
theorem diffL_bef {a b : List ByteArray} {i k : Nat} {m : List (Nat × Nat)} (h : Match a b i k m) : i ≤ a.length → k ≤ b.length → ∀ j : Nat,
  ((diffL a b i k m).any fun h => decide (h.f0 = (j : Int) ∧ h.f1.length = 0)) = befAt a.length b.length i k m j := by
 induction h with
 | nil i k =>
  intro hi hk j
  rw [diffL_nil, (pieceL_any a b (Nat.le_refl _) hi hk j).2]
  rfl
 | cons i k p m h1 h2 h3 h4 he hm ih =>
  intro hi hk j
  rw [diffL_cons, List.any_append, (pieceL_any a b (Nat.le_of_lt h3) h1 h2 j).2, ih (by omega) (by omega) j]
  rfl
theorem pieceL_count (a b : List ByteArray) (i k p q : Nat) : (pieceL a b i k p q).length ≤ 1 := by
 unfold pieceL
 split <;> simp
theorem diffL_count (a b : List ByteArray) : ∀ (m : List (Nat × Nat)) (i k : Nat), (diffL a b i k m).length ≤ m.length + 1
 | [], i, k => pieceL_count a b i k _ _
 | p :: m, i, k => by
  have := pieceL_count a b i k p.1 p.2
  have := diffL_count a b m (p.1 + 1) (p.2 + 1)
  rw [diffL_cons, List.length_append, List.length_cons]
  omega
structure Marked (a b : List ByteArray) (m : List (Nat × Nat)) (A B : List Bool) : Prop where
 la : A.length = a.length
 lb : B.length = a.length + 1
 ea : ∀ j, j < a.length → rdOf false A (j : Int) = (pt m j).isNone
 eb : ∀ j, j ≤ a.length → rdOf false B (j : Int) = befAt a.length b.length 0 0 m j
theorem rdOf_getD (l : List Bool) (j : Nat) (h : j < l.length) : rdOf false l (j : Int) = l.getD j false := by
 rw [rdOf_at _ _ _ h, List.getD_eq_getElem?_getD, List.getElem?_eq_getElem h]
 rfl
theorem touched_ev {a b : List ByteArray} {m : List (Nat × Nat)} (h : Match a b 0 0 m) (ha : a.length ≤ 1000) (hm : m.length ≤ 1000) : ∃ A B, Marked a b m A B ∧ Ev (fun k => sidingref18_touched.f k (a.length : Int) (diffL a b 0 0 m)) (A, B) := by
 have ho := inOrder_mem (diffL_order h (Nat.zero_le _))
 have hc := diffL_count a b m 0 0
 have hg := marks_getD a.length (diffL a b 0 0 m) (List.replicate a.length false) (List.replicate (a.length + 1) false) List.length_replicate List.length_replicate ho
 have hlen := marks_length (diffL a b 0 0 m) (List.replicate a.length false) (List.replicate (a.length + 1) false)
 rw [List.length_replicate, List.length_replicate] at hlen
 have hrep : ∀ (n j : Nat), (List.replicate n false).getD j false = false := fun n j => by
  rw [List.getD_eq_getElem?_getD, List.getElem?_replicate]
  split <;> rfl
 refine ⟨_, _, ⟨hlen.1, hlen.2, fun j hj => ?_, fun j hj => ?_⟩, ?_⟩
 ·rw [rdOf_getD _ _ (by rw [hlen.1]; exact hj), (hg j).1, hrep, Bool.false_or, diffL_in h (Nat.zero_le _) (Nat.zero_le _) j hj, decide_eq_true (Nat.zero_le _), Bool.true_and]
 ·rw [rdOf_getD _ _ (by rw [hlen.2]; omega), (hg j).2, hrep, Bool.false_or, diffL_bef h (Nat.zero_le _) (Nat.zero_le _) j]
 ·unfold sidingref18_touched.f
  rw [w64 (by omega)]
  refine Ev.pos (by omega) (Ev.pos (by omega) (Ev.pos (by omega) (Ev.pos (by omega) ?_)))
  rw [Int.toNat_natCast, show ((a.length : Int) + 1).toNat = a.length + 1 by omega]
  have := touched_loop (diffL a b 0 0 m) a.length (by omega) (by omega) ho (diffL a b 0 0 m).length 0 (List.replicate a.length false) (List.replicate (a.length + 1) false) (by omega) List.length_replicate List.length_replicate
  exact this
theorem part_loop (a : List ByteArray) (L : List S82) (fr tt : Nat) (hft : fr ≤ tt) (ht : tt ≤ a.length) (ha : a.length ≤ 1000) (hl : L.length ≤ 1000000) (hb : ∀ h ∈ L, h.f2.length ≤ 1000) : ∀ (d i lo at_ : Nat) (out : List ByteArray), i + d = L.length → inOrder a.length lo (L.drop i) → at_ ≤ max fr lo → at_ ≤ tt → out.length ≤ 2000 * i →
  Ev (fun k => sidingref18_part.l0 k a L (fr : Int) (tt : Int) out (at_ : Int) (i : Int)) (partL a fr tt (L.drop i) out at_)
 | 0, i, lo, at_, out, hi, _, h1, h2, h3 => by
  obtain rfl : i = L.length := by omega
  rw [List.drop_length, partL]
  have hsl : ((a.take tt).drop at_).length ≤ 1000 := by rw [List.length_drop, List.length_take]; omega
  refine Ev.step (fun k => by rw [sidingref18_part.l0]) (Ev.neg (by omega) (Ev.pos (by omega) (Ev.pos (by omega) (Ev.pos (by omega) ?_))))
  rw [Int.toNat_natCast, Int.toNat_natCast]
  exact Ev.pos (by omega) (Ev.rt rfl)
 | d + 1, i, lo, at_, out, hi, ho, h1, h2, h3 => by
  have hi' : i < L.length := by omega
  rw [drop_at L i hi'] at ho
  rw [drop_at L i hi', partL]
  obtain ⟨g1, g2⟩ := ho
  have g3 := inOrder_le g2
  have g4 := hb L[i] (List.getElem_mem hi')
  refine Ev.step (fun k => by rw [sidingref18_part.l0]) (Ev.pos (by omega) (Ev.pos (by omega) ?_))
  rw [rd_hunks L i hi', w64 (x := (i : Int) + 1) (by omega), w64 (x := L[i].f0 + (L[i].f1.length : Int)) (by omega)]
  by_cases e1 : L[i].f0 < (fr : Int)
  ·rw [if_pos (.inl e1)]
   exact Ev.pos e1 (part_loop a L fr tt hft ht ha hl hb d (i + 1) _ at_ out (by omega) g2 (by omega) h2 (by omega))
  refine Ev.neg e1 ?_
  by_cases e2 : (tt : Int) < L[i].f0 + (L[i].f1.length : Int)
  ·rw [if_pos (.inr e2)]
   exact Ev.pos e2 (part_loop a L fr tt hft ht ha hl hb d (i + 1) _ at_ out (by omega) g2 (by omega) h2 (by omega))
  refine Ev.neg e2 ?_
  rw [if_neg (by omega)]
  obtain ⟨f0, hf0⟩ : ∃ f0 : Nat, L[i].f0 = (f0 : Int) := ⟨L[i].f0.toNat, by omega⟩
  rw [hf0] at g1 g2 g3 e1 e2 ⊢
  rw [Int.toNat_natCast] at g2 g3 ⊢
  have hsl : ((a.take f0).drop at_).length ≤ 1000 := by rw [List.length_drop, List.length_take]; omega
  refine Ev.pos (by omega) (Ev.pos (by omega) (Ev.pos (by omega) ?_))
  rw [Int.toNat_natCast]
  refine Ev.pos (by omega) (Ev.bs (Ev.pos (by rw [List.length_append]; omega) ?_))
  exact part_loop a L fr tt hft ht ha hl hb d (i + 1) _ (f0 + L[i].f1.length) _ (by omega) g2 (by omega) (by omega) (by rw [List.length_append, List.length_append]; omega)
theorem part_ev {a b : List ByteArray} {m : List (Nat × Nat)} (h : Match a b 0 0 m) (ha : a.length ≤ 1000) (hb : b.length ≤ 1000) (hm : m.length ≤ 1000) (fr tt p0 q : Nat) (hft : fr ≤ tt) (ht : tt ≤ a.length) (hq : pt m tt = some q ∨ tt = a.length ∧ q = b.length) (hp : 0 = fr ∧ 0 = p0 ∨ ∃ f u, fr = f + 1 ∧ p0 = u + 1 ∧ pt m f = some u) :
  Ev (fun k => sidingref18_part.f k a (diffL a b 0 0 m) (fr : Int) (tt : Int)) ((b.take q).drop p0) := by
 have hc := diffL_count a b m 0 0
 have hnew : ∀ (m : List (Nat × Nat)) (i k : Nat), ∀ h ∈ diffL a b i k m, h.f2.length ≤ 1000 := by
  have hpc : ∀ i k p q, ∀ h ∈ pieceL a b i k p q, h.f2.length ≤ 1000 := fun i k p q h hh => by
   unfold pieceL at hh
   split at hh
   ·obtain rfl := List.mem_singleton.1 hh
    show ((b.take q).drop k).length ≤ _
    rw [List.length_drop, List.length_take]
    omega
   ·cases hh
  intro m
  induction m with
  | nil => exact fun i k h hh => hpc _ _ _ _ h hh
  | cons p m ih =>
   intro i k h hh
   rw [diffL_cons] at hh
   rcases List.mem_append.1 hh with hh | hh
   ·exact hpc _ _ _ _ h hh
   ·exact ih _ _ h hh
 have := part_loop a (diffL a b 0 0 m) fr tt hft ht ha (by omega) (hnew m 0 0) (diffL a b 0 0 m).length 0 0 fr [] (by omega) (diffL_order h (Nat.zero_le _)) (by omega) hft (by simp)
 rw [List.drop_zero, partL_part fr tt p0 q h (Nat.zero_le _) hft ht (Nat.zero_le _) hq hp] at this
 exact this
end Go.Proofs.Ytahpbpacjciddaa.Pr
end
section
namespace Go.Proofs.Ytahpbpacjciddaa.Pr
open Go.RowKit Go.Proofs.YtahpbpacjciddaaW.PrintWords Go.Proofs.YtahpbpacjciddaaW.PrintLast Go.Proofs.YtahpbpacjciddaaW.PrintMore
theorem Marked.ga {a b : List ByteArray} {m : List (Nat × Nat)} {A B : List Bool} (k : Marked a b m A B) (j : Nat) (h : j < a.length) : A.getD j false = (pt m j).isNone := by
 rw [← k.ea j h, rdOf_getD _ _ (by rw [k.la]; exact h)]
theorem Marked.gb {a b : List ByteArray} {m : List (Nat × Nat)} {A B : List Bool} (k : Marked a b m A B) (j : Nat) (h : j ≤ a.length) : B.getD j false = befAt a.length b.length 0 0 m j := by
 rw [← k.eb j h, rdOf_getD _ _ (by rw [k.lb]; omega)]
section
variable {a b c : List ByteArray} {m1 m2 : List (Nat × Nat)} {A1 B1 A2 B2 : List Bool}
variable (h1 : Match a b 0 0 m1) (h2 : Match a c 0 0 m2) (k1 : Marked a b m1 A1 B1) (k2 : Marked a c m2 A2 B2)
variable (ha : a.length ≤ 1000) (hb : b.length ≤ 1000) (hc : c.length ≤ 1000) (hm1 : m1.length ≤ 1000) (hm2 : m2.length ≤ 1000)
include k1 k2 in
theorem tlp_val (j : Nat) (h : j < a.length) : tlp a.length A1 A2 j = ((pt m1 j).isNone || (pt m2 j).isNone) := by
 unfold tlp
 rw [decide_eq_true h, k1.ga j h, k2.ga j h, Bool.true_and]
include k1 k2 in
theorem toE_val (t : Nat) (ht : t ≤ a.length) (hs : t = a.length ∨ (pt m1 t).isSome = true ∧ (pt m2 t).isSome = true) : ∀ (d j : Nat), j ≤ t → t - j ≤ d → (∀ l, j ≤ l → l < t → pt m1 l = none ∨ pt m2 l = none) → toE a.length A1 A2 d j = t
 | 0, j, hj, hd, hn => by
  unfold toE
  omega
 | d + 1, j, hj, hd, hn => by
  unfold toE
  by_cases e : j = t
  ·subst e
   have hf : tlp a.length A1 A2 j = false := by
    rcases hs with e | ⟨s1, s2⟩
    ·unfold tlp
     rw [decide_eq_false (by omega), Bool.false_and]
    ·by_cases e : j < a.length
     ·rw [tlp_val k1 k2 j e]
      rw [Option.isSome_iff_exists] at s1 s2
      obtain ⟨u, hu⟩ := s1
      obtain ⟨v, hv⟩ := s2
      rw [hu, hv]
      rfl
     ·unfold tlp
      rw [decide_eq_false e, Bool.false_and]
   rw [hf, if_neg Bool.false_ne_true]
  ·have hf : tlp a.length A1 A2 j = true := by
    rw [tlp_val k1 k2 j (by omega)]
    rcases hn j (Nat.le_refl _) (by omega) with g | g
    ·rw [g]; rfl
    ·rw [g, Bool.or_comm]; rfl
   rw [hf, if_pos rfl]
   exact toE_val t ht hs d (j + 1) (by omega) (by omega) (fun l g1 g2 => hn l (by omega) g2)
include ha hb hc in
theorem rgapP_ev (out : List S34) (i p r t q s : Nat) (hit : i ≤ t) (ht : t ≤ a.length) (hpq : p ≤ q) (hq : q ≤ b.length) (hrs : r ≤ s) (hs : s ≤ c.length) :
  Ev (fun k => rgapP k a i t ((b.take q).drop p) ((c.take s).drop r) out) (out ++ gapP a b c (i, p, r) (t, q, s)) := by
 have lq : ((b.take q).drop p).length = q - p := segL_len hq
 have ls : ((c.take s).drop r).length = s - r := segL_len hs
 have hl : (segL a i t).length = t - i := segL_len ht
 have hj : (t, q, s) = (i, p, r) ↔ (t = i ∧ q = p ∧ s = r) := by simp
 unfold rgapP rgap
 rw [lq, ls]
 by_cases hne : t = i ∧ q = p ∧ s = r
 ·rw [decide_eq_false (show ¬ i < t by omega), decide_eq_false (show ¬ 0 < q - p by omega), decide_eq_false (show ¬ 0 < s - r by omega)]
  refine Ev.neg (by decide) ?_
  have eg : gapP a b c (i, p, r) (t, q, s) = [] := by
   unfold gapP
   rw [if_pos (hj.2 hne)]
  rw [eg, List.append_nil]
  exact Ev.now _
 ·refine Ev.pos (by simp only [Bool.or_eq_true, decide_eq_true_eq]; omega) ?_
  have eg : gapP a b c (i, p, r) (t, q, s) = [mkPiece (segL a i t) (segL b p q) (segL c r s)] := by
   unfold gapP
   rw [if_neg (fun e => hne (hj.1 e))]
  rw [eg]
  refine Ev.bd (kind_ev _ _ _ (by omega) (by omega) (by omega)) (Ev.rt rfl)
include h1 h2 k1 k2 in
theorem rlp_run (t q s M : Nat) (hM : 1 ≤ M) (ht : t + M ≤ a.length) (hq : ∀ k, k < M → pt m1 (t + k) = some (q + k) ∧ pt m2 (t + k) = some (s + k)) (j : Nat) (hj : j < M) : rlp a.length A1 B1 A2 B2 t (t + j) = true := by
 obtain ⟨g1, g2⟩ := hq j hj
 unfold rlp
 rw [decide_eq_true (show t + j < a.length by omega), k1.ga _ (by omega), k2.ga _ (by omega), g1, g2]
 by_cases e0 : j = 0
 ·rw [decide_eq_true (show t + j = t by omega)]
  rfl
 ·obtain ⟨j', rfl⟩ : ∃ j', j = j' + 1 := ⟨j - 1, by omega⟩
  obtain ⟨f1, f2⟩ := hq j' (by omega)
  have b1 := befAt_next h1 f1
  have b2 := befAt_next h2 f2
  rw [show t + j' + 1 = t + (j' + 1) by omega] at b1 b2
  rw [k1.gb _ (by omega), k2.gb _ (by omega), b1, b2, g1, g2]
  simp only [decide_eq_false (show ¬ q + j' + 1 < q + (j' + 1) by omega), decide_eq_false (show ¬ s + j' + 1 < s + (j' + 1) by omega)]
  simp
include h1 h2 k1 k2 in
theorem rlp_stop (t q s M : Nat) (hM : 1 ≤ M) (ht : t + M ≤ a.length) (hq : ∀ k, k < M → pt m1 (t + k) = some (q + k) ∧ pt m2 (t + k) = some (s + k)) (hs : ¬ (pt m1 (t + M) = some (q + M) ∧ pt m2 (t + M) = some (s + M))) : rlp a.length A1 B1 A2 B2 t (t + M) = false := by
 unfold rlp
 by_cases e : t + M < a.length
 ·obtain ⟨j', rfl⟩ : ∃ j', M = j' + 1 := ⟨M - 1, by omega⟩
  obtain ⟨g1, g2⟩ := hq j' (by omega)
  have b1 := befAt_next h1 g1
  have b2 := befAt_next h2 g2
  rw [show t + j' + 1 = t + (j' + 1) by omega] at b1 b2
  rw [k1.ga _ e, k2.ga _ e, k1.gb _ (by omega), k2.gb _ (by omega), b1, b2]
  cases e1 : pt m1 (t + (j' + 1)) with
  | none => simp
  | some u =>
   cases e2 : pt m2 (t + (j' + 1)) with
   | none => simp
   | some v =>
    have n1 := pt_mono h1 g1 e1 (by omega)
    have n2 := pt_mono h2 g2 e2 (by omega)
    rw [e1, e2, Option.some.injEq, Option.some.injEq] at hs
    simp only [Bool.and_eq_false_iff, Bool.or_eq_false_iff, Bool.not_eq_false', decide_eq_true_eq, decide_eq_false_iff_not]
    refine .inr (.inr (.inr ⟨by omega, ?_⟩))
    omega
 ·rw [decide_eq_false e, Bool.false_and]
include h1 h2 k1 k2 in
theorem runE_val (t q s M : Nat) (hM : 1 ≤ M) (ht : t + M ≤ a.length) (hq : ∀ k, k < M → pt m1 (t + k) = some (q + k) ∧ pt m2 (t + k) = some (s + k)) (hs : ¬ (pt m1 (t + M) = some (q + M) ∧ pt m2 (t + M) = some (s + M))) : ∀ (d j : Nat), j ≤ M → M - j ≤ d → runE a.length A1 B1 A2 B2 t d (t + j) = t + M
 | 0, j, hj, hd => by
  unfold runE
  omega
 | d + 1, j, hj, hd => by
  unfold runE
  by_cases e : j = M
  ·subst e
   rw [rlp_stop h1 h2 k1 k2 t q s j hM ht hq hs, if_neg Bool.false_ne_true]
  ·rw [rlp_run h1 h2 k1 k2 t q s M hM ht hq j (by omega), if_pos rfl]
   exact runE_val t q s M hM ht hq hs d (j + 1) (by omega) (by omega)
include h1 h2 k1 k2 ha hb hc hm1 hm2 in
theorem ref_l0 : ∀ (d i p r f g : Nat) (out R : List S34), i + d = a.length → Bnd m1 m2 i p r → d < f → d < g → mres a b c m1 m2 f i (i, p, r) out = some R →
  Ev (fun k => rgo k a (diffL a b 0 0 m1) (diffL a c 0 0 m2) A1 B1 A2 B2 g i out) R := by
 intro d
 induction d using Nat.strongRecOn with
 | _ d ih =>
 intro i p r f g out R hd hB hf hg hR
 have hpb : p ≤ b.length ∧ r ≤ c.length := by
  rcases hB with ⟨_, rfl, rfl⟩ | ⟨f, u, v, _, rfl, rfl, e1, e2⟩
  ·omega
  ·obtain ⟨_, _, _, g1, _⟩ := pt_some h1 e1
   obtain ⟨_, _, _, g2, _⟩ := pt_some h2 e2
   omega
 obtain ⟨g, rfl⟩ : ∃ g', g = g' + 1 := ⟨g - 1, by omega⟩
 have hb1 : 0 = i ∧ 0 = p ∨ ∃ f u, i = f + 1 ∧ p = u + 1 ∧ pt m1 f = some u := by
  rcases hB with ⟨rfl, rfl, _⟩ | ⟨f, u, v, e1, e2, e3, e4, e5⟩
  ·exact .inl ⟨rfl, rfl⟩
  ·exact .inr ⟨f, u, e1, e2, e4⟩
 have hb2 : 0 = i ∧ 0 = r ∨ ∃ f u, i = f + 1 ∧ r = u + 1 ∧ pt m2 f = some u := by
  rcases hB with ⟨rfl, _, rfl⟩ | ⟨f, u, v, e1, e2, e3, e4, e5⟩
  ·exact .inl ⟨rfl, rfl⟩
  ·exact .inr ⟨f, v, e1, e3, e5⟩
 unfold rgo
 cases turn h1 h2 i p r (by omega) hB with
 | last hn he =>
  rw [he f out (by omega)] at hR
  obtain rfl := Option.some.inj hR
  rw [toE_val k1 k2 a.length (Nat.le_refl _) (.inl rfl) (a.length - i) i (by omega) (by omega) hn]
  refine Ev.bd (part_ev h1 ha hb hm1 i a.length p b.length (by omega) (Nat.le_refl _) (.inr ⟨rfl, rfl⟩) hb1) (Ev.bd (part_ev h2 ha hc hm2 i a.length r c.length (by omega) (Nat.le_refl _) (.inr ⟨rfl, rfl⟩) hb2) (Ev.bd (rgapP_ev ha hb hc out i p r a.length b.length c.length (by omega) (Nat.le_refl _) hpb.1 (Nat.le_refl _) hpb.2 (Nat.le_refl _)) ?_))
  rw [show a.length - a.length = 0 by omega, show runE a.length A1 B1 A2 B2 a.length 0 a.length = a.length from rfl]
  refine Ev.pos ?_ (Ev.rt ?_)
  ·unfold rstop
   rw [decide_eq_true rfl]
   rfl
  ·unfold runP
   rw [if_neg (by omega), List.append_nil]
 | next t q s M g1 g2 hM hn hq hs hp hr hqb hsc hb3 he =>
  obtain ⟨f', hf', e⟩ := he f out (by omega)
  rw [e] at hR
  obtain ⟨q0, s0⟩ := hq 0 (by omega)
  rw [toE_val k1 k2 t (by omega) (.inr (by rw [show t = t + 0 from rfl, q0, s0]; exact ⟨rfl, rfl⟩)) (a.length - i) i (by omega) (by omega) hn]
  refine Ev.bd (part_ev h1 ha hb hm1 i t p q (by omega) (by omega) (.inl q0) hb1) (Ev.bd (part_ev h2 ha hc hm2 i t r s (by omega) (by omega) (.inl s0) hb2) (Ev.bd (rgapP_ev ha hb hc out i p r t q s (by omega) (by omega) hp (by omega) hr (by omega)) ?_))
  have hrun := runE_val h1 h2 k1 k2 t q s M hM g2 hq hs (a.length - t) 0 (by omega) (by omega)
  rw [show t + 0 = t from rfl] at hrun
  rw [hrun]
  have hrp : runP a t (t + M) = [⟨1, segL a t (t + M), segL a t (t + M), segL a t (t + M)⟩] := by
   unfold runP
   rw [if_pos (by omega)]
  rw [hrp]
  have go : Ev (fun k => rgo k a (diffL a b 0 0 m1) (diffL a c 0 0 m2) A1 B1 A2 B2 g (t + M) (out ++ gapP a b c (i, p, r) (t, q, s) ++ [⟨1, segL a t (t + M), segL a t (t + M), segL a t (t + M)⟩])) R :=
   ih (a.length - (t + M)) (by omega) (t + M) (q + M) (s + M) f' g _ R (by omega) hb3 hf' (by omega) hR
  by_cases e1 : t + M = a.length
  ·obtain ⟨M', rfl⟩ : ∃ M', M = M' + 1 := ⟨M - 1, by omega⟩
   obtain ⟨f1, f2⟩ := hq M' (by omega)
   have b1 := befAt_next h1 f1
   have b2 := befAt_next h2 f2
   rw [show t + M' + 1 = t + (M' + 1) by omega] at b1 b2
   have z1 : pt m1 (t + (M' + 1)) = none := by
    cases e : pt m1 (t + (M' + 1)) with
    | none => rfl
    | some u =>
     obtain ⟨_, _, g, _⟩ := pt_some h1 e
     omega
   have z2 : pt m2 (t + (M' + 1)) = none := by
    cases e : pt m2 (t + (M' + 1)) with
    | none => rfl
    | some u =>
     obtain ⟨_, _, g, _⟩ := pt_some h2 e
     omega
   rw [z1] at b1
   rw [z2] at b2
   have hst : rstop a.length B1 B2 t (t + (M' + 1)) = (!decide (t + (M' + 1) = a.length ∧ q + M' + 1 < b.length) && !decide (t + (M' + 1) = a.length ∧ s + M' + 1 < c.length)) := by
    unfold rstop
    rw [decide_eq_true e1, decide_eq_false (by omega), k1.gb _ (by omega), k2.gb _ (by omega), b1, b2]
    rfl
   rw [hst]
   by_cases e2 : q + M' + 1 < b.length
   ·refine Ev.neg ?_ go
    simp [e1, e2]
   ·by_cases e3 : s + M' + 1 < c.length
    ·refine Ev.neg ?_ go
     simp [e1, e3]
    ·refine Ev.pos (by simp [e2, e3]) (Ev.rt ?_)
     cases turn h1 h2 (t + (M' + 1)) (q + (M' + 1)) (s + (M' + 1)) g2 hb3 with
     | next t' _ _ M2 y1 y2 y3 => omega
     | last _ hlast =>
      rw [hlast f' _ (by omega)] at hR
      obtain rfl := Option.some.inj hR
      have eg : gapP a b c (t + (M' + 1), q + (M' + 1), s + (M' + 1)) (a.length, b.length, c.length) = [] := by
       unfold gapP
       rw [if_pos]
       simp only [Prod.mk.injEq]
       omega
      rw [eg, List.append_nil]
  ·refine Ev.neg ?_ go
   unfold rstop
   rw [decide_eq_false e1]
   exact Bool.false_ne_true
end
end Go.Proofs.Ytahpbpacjciddaa.Pr
end
section
namespace Go.Proofs.Ytahpbpacjciddaa.Pr
open Go.RowKit Go.Proofs.YtahpbpacjciddaaW.PrintWords Go.Proofs.YtahpbpacjciddaaW.PrintLast Go.Proofs.YtahpbpacjciddaaW.PrintMore
theorem rmerge_ev (a b c : List ByteArray) (ha : tiny a) (hb : tiny b) (hc : tiny c) : Ev (fun k => ref18_Merge.f k a b c) (mergeR a b c) := by
 unfold ref18_Merge.f mergeR triErr
 refine Ev.bd (rlines_ev a ha) ?_
 by_cases e1 : linesErr a = 0
 ·rw [if_pos e1]
  refine Ev.pos e1 (Ev.bd (rlines_ev b hb) ?_)
  by_cases e2 : linesErr b = 0
  ·rw [if_pos e2]
   refine Ev.pos e2 (Ev.bd (rlines_ev c hc) ?_)
   by_cases e3 : linesErr c = 0
   ·rw [if_pos e3]
    obtain ⟨l1, _⟩ := linesErr_zero e1
    obtain ⟨l2, _⟩ := linesErr_zero e2
    obtain ⟨l3, _⟩ := linesErr_zero e3
    have n1 := best_le a b
    have n2 := best_le a c
    obtain ⟨A1, B1, k1, t1⟩ := touched_ev (bestOf_greedy a b).match (by omega) (by omega)
    obtain ⟨A2, B2, k2, t2⟩ := touched_ev (bestOf_greedy a c).match (by omega) (by omega)
    refine Ev.pos e3 (Ev.bd (rdiff_ev a b ha hb) (Ev.bd (rdiff_ev a c ha hc) ?_))
    rw [if_pos (bothErr_zero.2 ⟨e1, e2⟩), if_pos (bothErr_zero.2 ⟨e1, e3⟩)]
    refine Ev.bd t1 (Ev.bd t2 ?_)
    unfold rm4
    refine Ev.pos ⟨k1.la, k1.lb, k2.la, k2.lb, by omega⟩ (Ev.bd ?_ (Ev.now (mergeOf a b c, (0 : Int))))
    exact ref_l0 (bestOf_greedy a b).match (bestOf_greedy a c).match k1 k2 (by omega) (by omega) (by omega) (by omega) (by omega) a.length 0 0 0 (a.length + 1) (a.length + 2) [] _ (by omega) (.inl ⟨rfl, rfl, rfl⟩) (by omega) (by omega) (mergeOf_run a b c).2
   ·rw [if_neg e3]
    exact Ev.neg e3 (Ev.rt rfl)
  ·rw [if_neg e2, if_neg e2]
   exact Ev.neg e2 (Ev.rt rfl)
 ·rw [if_neg e1, if_neg e1]
  exact Ev.neg e1 (Ev.rt rfl)
end Go.Proofs.Ytahpbpacjciddaa.Pr
end
section
namespace Go.Proofs.Ytahpbpacjciddaa.Pure
open Go.RowKit Go.Proofs.YtahpbpacjciddaaW.PrintWords Go.Proofs.YtahpbpacjciddaaW.PrintLast Go.Proofs.YtahpbpacjciddaaW.PrintMore Go.Proofs.Ytahpbpacjciddaa.Pr
def btw : ByteArray := ⟨#[98, 101, 116, 119, 101, 101, 110]⟩
theorem btw_list : btw.toList = [98, 101, 116, 119, 101, 101, 110] := by kernel_rfl
theorem single_l1 (l : List S34) (hl : l.length ≤ 1000000) (i : Nat) (hi : i < l.length) (hb : l[i].f1.length ≤ 1000000) (v : Bool) (h : Ev (fun k => sidinglaw18_single.l0 k l 0 ((i + 1 : Nat) : Int)) v) : ∀ (d j : Nat), j + d = l[i].f1.length → Ev (fun k => sidinglaw18_single.l1 k l 0 (i : Int) (j : Int)) (decide (l[i].f0 = 1) && (l[i].f1.drop j).any (fun s => decide (s = btw)) || v) := by
 have ei : wrap64 ((i : Int) + 1) = ((i + 1 : Nat) : Int) := by rw [w64 (by omega)]; omega
 have hend : ∀ (j : Nat) (x : Bool), x = false → Ev (fun k => sidinglaw18_single.j3 k l 0 (i : Int) (j : Int) x) v := fun j x hx => by
  refine Ev.step (fun k => by rw [sidinglaw18_single.j3]) ?_
  rw [ei]
  exact Ev.neg (by rw [hx]; exact Bool.false_ne_true) h
 intro d
 induction d with
 | zero =>
  intro j hj
  refine Ev.step (fun k => by rw [sidinglaw18_single.l1]) ?_
  rw [rd_pieces l i hi, List.drop_eq_nil_of_le (by omega), List.any_nil, Bool.and_false, Bool.false_or]
  exact Ev.pos (by omega) (Ev.pos (by omega) (Ev.neg (by omega) (hend j false rfl)))
 | succ d ih =>
  intro j hj
  have hlt : j < l[i].f1.length := by omega
  refine Ev.step (fun k => by rw [sidinglaw18_single.l1]) ?_
  rw [rd_pieces l i hi]
  refine Ev.pos (by omega) (Ev.pos (by omega) (Ev.pos (by omega) ?_))
  by_cases e : l[i].f0 = 1
  ·rw [decide_eq_true e, Bool.true_and, List.drop_eq_getElem_cons hlt, List.any_cons]
   refine Ev.step (fun k => by rw [sidinglaw18_single.j3]) ?_
   have ej : wrap64 ((j : Int) + 1) = ((j + 1 : Nat) : Int) := by rw [w64 (by omega)]; omega
   rw [rd_pieces l i hi, rdOf_at _ _ _ hlt, ← btw_list, ej]
   refine Ev.pos (beq_iff_eq.2 e) (Ev.pos (by omega) (Ev.pos (by omega) (Ev.pos (by omega) (Ev.pos (by omega) ?_))))
   by_cases h2 : l[i].f1[j] = btw
   ·rw [decide_eq_true h2, Bool.true_or, Bool.true_or]
    exact Ev.pos (by rw [h2]) (Ev.now _)
   ·rw [decide_eq_false h2, Bool.false_or]
    have := ih (j + 1) (by omega)
    rw [decide_eq_true e, Bool.true_and] at this
    exact Ev.neg (fun e => h2 (toList_inj.1 e)) this
  ·rw [decide_eq_false e, Bool.false_and, Bool.false_or]
   exact hend j _ (beq_eq_false_iff_ne.2 e)
theorem single_loop (l : List S34) (hl : l.length ≤ 1000000) (hb : ∀ x ∈ l, x.f1.length ≤ 1000000) : ∀ (d i : Nat), i + d = l.length → Ev (fun k => sidinglaw18_single.l0 k l 0 (i : Int)) ((l.drop i).any (fun x => decide (x.f0 = 1) && x.f1.any (fun s => decide (s = btw)))) := by
 intro d
 induction d with
 | zero =>
  intro i h
  refine Ev.step (fun k => by rw [sidinglaw18_single.l0]) ?_
  refine Ev.neg (by omega) ?_
  refine Ev.step (fun k => by rw [sidinglaw18_single.j1]) ?_
  rw [List.drop_eq_nil_of_le (by omega)]
  exact Ev.neg Bool.false_ne_true (Ev.now _)
 | succ d ih =>
  intro i h
  have hlt : i < l.length := by omega
  refine Ev.step (fun k => by rw [sidinglaw18_single.l0]) ?_
  refine Ev.pos (by omega) ?_
  refine Ev.step (fun k => by rw [sidinglaw18_single.j1]) ?_
  refine Ev.pos rfl ?_
  rw [List.drop_eq_getElem_cons hlt, List.any_cons]
  have := single_l1 l hl i hlt (hb _ (List.getElem_mem hlt)) _ (ih (i + 1) (by omega)) l[i].f1.length 0 (Nat.zero_add _)
  rw [List.drop_zero] at this
  exact this
theorem joined18 (a b : List ByteArray) (s : ByteArray) (ha : a.length ≤ 20) (hb : b.length ≤ 20) : sidinglaw18_joined.f a s b = some (a ++ [s] ++ b) := by
 unfold sidinglaw18_joined.f
 rw [Option.bind_some, List.nil_append, if_pos (by simp only [List.length_nil]; omega), Option.bind_some, if_pos (by omega), Option.bind_some, if_pos (by rw [List.length_append, List.length_singleton]; omega)]
theorem at_mid (a b : List ByteArray) (s : ByteArray) : (a ++ [s] ++ b)[a.length]? = some s := by
 rw [List.append_assoc, List.getElem?_append_right (Nat.le_refl _), Nat.sub_self]
 rfl
theorem mid_uniq {a b : List ByteArray} {s : ByteArray} (ha : s ∉ a) (hb : s ∉ b) {i : Nat} (h : (a ++ [s] ++ b)[i]? = some s) : i = a.length := by
 rw [List.append_assoc] at h
 rcases Nat.lt_trichotomy i a.length with hlt | rfl | hgt
 ·rw [List.getElem?_append_left hlt] at h
  exact absurd (List.mem_of_getElem? h) ha
 ·rfl
 ·rw [List.getElem?_append_right (by omega)] at h
  obtain ⟨j, hj⟩ : ∃ j, i - a.length = j + 1 := ⟨i - a.length - 1, by omega⟩
  rw [hj] at h
  exact absurd (List.mem_of_getElem? (show b[j]? = some s from h)) hb
theorem front_same (a b c : List ByteArray) (s : ByteArray) (i t : Nat) (ht : t ≤ a.length) : segL (a ++ [s] ++ b) i t = segL (a ++ [s] ++ c) i t := by
 unfold segL
 rw [List.append_assoc, List.append_assoc, List.take_append_of_le_length ht, List.take_append_of_le_length ht]
theorem back_same (a x b : List ByteArray) (s : ByteArray) (i t p q : Nat) (hi : a.length + 1 ≤ i) (hp : p + a.length = i + x.length) (hq : q + a.length = t + x.length) : segL (a ++ [s] ++ b) i t = segL (x ++ [s] ++ b) p q := by
 have hd : ∀ (y : List ByteArray) (n m : Nat), y.length + 1 ≤ n → segL (y ++ [s] ++ b) n m = (b.take (m - (y.length + 1))).drop (n - (y.length + 1)) := fun y n m hn => by
  unfold segL
  rw [List.drop_take, List.drop_take]
  have hl : (y ++ [s]).length = y.length + 1 := by simp
  rw [List.drop_append, List.drop_eq_nil_of_le (by omega), List.nil_append, hl]
  congr 1
  omega
 rw [hd a i t hi, hd x p q (by omega), show t - (a.length + 1) = q - (x.length + 1) by omega, show i - (a.length + 1) = p - (x.length + 1) by omega]
theorem apart_res (a x b y : List ByteArray) (s : ByteArray) (ha : s ∉ a) (hx : s ∉ x) (hb : s ∉ b) (hy : s ∉ y) (z u v : Nat) (h1 : pt (bestOf (a ++ [s] ++ b) (x ++ [s] ++ b)) z = some u) (h2 : pt (bestOf (a ++ [s] ++ b) (a ++ [s] ++ y)) z = some v) (hz : (a ++ [s] ++ b)[z]? = some s) :
  clashN (mergeOf (a ++ [s] ++ b) (x ++ [s] ++ b) (a ++ [s] ++ y)) = 0 ∧ resOf (mergeOf (a ++ [s] ++ b) (x ++ [s] ++ b) (a ++ [s] ++ y)) = x ++ [s] ++ y := by
 have G1 := bestOf_greedy (a ++ [s] ++ b) (x ++ [s] ++ b)
 have G2 := bestOf_greedy (a ++ [s] ++ b) (a ++ [s] ++ y)
 have hr := (mergeOf_run (a ++ [s] ++ b) (x ++ [s] ++ b) (a ++ [s] ++ y)).1
 obtain rfl : z = a.length := mid_uniq ha hb hz
 have la : (a ++ [s] ++ b).length = a.length + 1 + b.length := by simp only [List.length_append, List.length_singleton]
 have lx : (x ++ [s] ++ b).length = x.length + 1 + b.length := by simp only [List.length_append, List.length_singleton]
 have ly : (a ++ [s] ++ y).length = a.length + 1 + y.length := by simp only [List.length_append, List.length_singleton]
 obtain ⟨_, _, k1, k2, e1⟩ := pt_some G1.match h1
 obtain ⟨_, _, k3, k4, e2⟩ := pt_some G2.match h2
 have hs : (a ++ [s] ++ b)[a.length] = s := Option.some.inj ((List.getElem?_eq_getElem k1).symm.trans (at_mid a b s))
 obtain rfl : u = x.length := mid_uniq hx hb (by rw [List.getElem?_eq_getElem k2, ← e1, hs])
 obtain rfl : v = a.length := mid_uniq ha hy (by rw [List.getElem?_eq_getElem k4, ← e2, hs])
 have c2 : Part (a ++ [s] ++ b) (a ++ [s] ++ y) (bestOf (a ++ [s] ++ b) (a ++ [s] ++ y)) 0 a.length 0 := by
  refine ⟨Nat.zero_le _, by omega, by omega, fun j u hj hlt => by omega, fun j u hj hle => ?_, fun k g1 g2 hk => ?_⟩
  ·by_cases e : j = a.length
   ·subst e
    rw [h2, Option.some.injEq] at hj
    omega
   ·have := pt_mono G2.match h2 hj (by omega)
    omega
  ·have f1 : (a ++ [s] ++ b)[0 + k]? = a[k]? := by rw [List.append_assoc, Nat.zero_add, List.getElem?_append_left (by omega)]
   have f2 : (a ++ [s] ++ y)[0 + k]? = a[k]? := by rw [List.append_assoc, Nat.zero_add, List.getElem?_append_left (by omega)]
   rw [List.getElem?_eq_getElem g1] at f1
   rw [List.getElem?_eq_getElem g2] at f2
   exact Option.some.inj (f1.trans f2.symm)
 have idl : ∀ k, k < a.length → pt (bestOf (a ++ [s] ++ b) (a ++ [s] ++ y)) k = some k := fun k hk => by
  have := fill_id G2 c2 (fun j u _ hj hu => ⟨Nat.zero_le _, by have := pt_mono G2.match hu h2 hj; omega⟩) k (by omega)
  rw [Nat.zero_add] at this
  exact this
 have c1 : Part (a ++ [s] ++ b) (x ++ [s] ++ b) (bestOf (a ++ [s] ++ b) (x ++ [s] ++ b)) (a.length + 1) (a ++ [s] ++ b).length (x.length + 1) := by
  refine ⟨by omega, Nat.le_refl _, by omega, fun j u hj hlt => pt_least G1.match h1 hj hlt, fun j u hj hle => ?_, fun k g1 g2 hk => ?_⟩
  ·obtain ⟨_, _, g, _⟩ := pt_some G1.match hj
   omega
  ·have f1 : (a ++ [s] ++ b)[a.length + 1 + k]? = b[k]? := by rw [List.getElem?_append_right (by simp only [List.length_append, List.length_singleton]; omega)]; congr 1; simp only [List.length_append, List.length_singleton]; omega
   have f2 : (x ++ [s] ++ b)[x.length + 1 + k]? = b[k]? := by rw [List.getElem?_append_right (by simp only [List.length_append, List.length_singleton]; omega)]; congr 1; simp only [List.length_append, List.length_singleton]; omega
   rw [List.getElem?_eq_getElem g1] at f1
   rw [List.getElem?_eq_getElem g2] at f2
   exact Option.some.inj (f1.trans f2.symm)
 have idr : ∀ j u, a.length < j → pt (bestOf (a ++ [s] ++ b) (x ++ [s] ++ b)) j = some u → u + a.length = j + x.length := fun j u hj hu => by
  obtain ⟨_, _, g, _⟩ := pt_some G1.match hu
  have := fill_id G1 c1 (fun j u hj _ hu => by
   obtain ⟨_, _, _, g, _⟩ := pt_some G1.match hu
   have := pt_mono G1.match h1 hu (by omega)
   omega) (j - (a.length + 1)) (by omega)
  rw [show a.length + 1 + (j - (a.length + 1)) = j by omega, hu, Option.some.injEq] at this
  omega
 obtain ⟨r1, r2⟩ := run_apart G1.match G2.match a.length x.length h1 h2 (fun i t ht => front_same a b y s i t ht) idl (fun i t p q hi hp hq => back_same a x b s i t p q hi hp hq) (by omega) idr hr (Nat.zero_le _) rfl (Nat.zero_le _)
 refine ⟨clash_zero r1, ?_⟩
 rw [r2]
 unfold segL
 rw [List.drop_zero, List.take_append_of_le_length (by simp), List.take_of_length_le (by simp), List.drop_append_of_le_length (by simp), List.drop_eq_nil_of_le (by simp), List.nil_append]
theorem apart_loop (a x b y all : List ByteArray) (hl : all.length ≤ 1000000) (ht : (∀ s ∈ all, s ≠ btw ∧ s.size ≤ 20) → Ev (fun k => sidinglaw18_MergeApart.l0 k a x b y true btw all (all.length : Int)) true) : ∀ (d i : Nat), i + d = all.length → (∀ s ∈ all.take i, s ≠ btw ∧ s.size ≤ 20) → Ev (fun k => sidinglaw18_MergeApart.l0 k a x b y true btw all (i : Int)) true := by
 intro d
 induction d with
 | zero =>
  intro i h hs
  obtain rfl : i = all.length := by omega
  rw [List.take_length] at hs
  exact ht hs
 | succ d ih =>
  intro i h hs
  have hlt : i < all.length := by omega
  have ei : wrap64 ((i : Int) + 1) = ((i + 1 : Nat) : Int) := by rw [w64 (by omega)]; omega
  refine Ev.step (fun k => by rw [sidinglaw18_MergeApart.l0]) ?_
  rw [rdOf_at _ _ _ hlt, ei]
  refine Ev.pos (by omega) (Ev.pos (by omega) ?_)
  by_cases e1 : all[i] = btw
  ·exact Ev.pos (by rw [e1]) (Ev.now _)
  ·refine Ev.neg (fun e => e1 (toList_inj.1 e)) ?_
   by_cases e2 : 20 < all[i].size
   ·exact Ev.pos (by omega) (Ev.now _)
   ·refine Ev.neg (by omega) (ih (i + 1) (by omega) ?_)
    intro s hm
    rw [List.take_succ_eq_append_getElem hlt] at hm
    rcases List.mem_append.1 hm with hm | hm
    ·exact hs s hm
    ·rw [List.mem_singleton.1 hm]
     exact ⟨e1, by omega⟩
theorem apart_tail (a x b y all : List ByteArray) (hall : all = a ++ x ++ b ++ y) (la : a.length ≤ 20) (lx : x.length ≤ 20) (lb : b.length ≤ 20) (ly : y.length ≤ 20) (hs : ∀ s ∈ all, s ≠ btw ∧ s.size ≤ 20) : Ev (fun k => sidinglaw18_MergeApart.l0 k a x b y true btw all (all.length : Int)) true := by
 have sa : ∀ s ∈ a, s ≠ btw ∧ s.size ≤ 20 := fun s h => hs s (by rw [hall]; simp [h])
 have sx : ∀ s ∈ x, s ≠ btw ∧ s.size ≤ 20 := fun s h => hs s (by rw [hall]; simp [h])
 have sb : ∀ s ∈ b, s ≠ btw ∧ s.size ≤ 20 := fun s h => hs s (by rw [hall]; simp [h])
 have sy : ∀ s ∈ y, s ≠ btw ∧ s.size ≤ 20 := fun s h => hs s (by rw [hall]; simp [h])
 have na : btw ∉ a := fun h => (sa _ h).1 rfl
 have nx : btw ∉ x := fun h => (sx _ h).1 rfl
 have nb : btw ∉ b := fun h => (sb _ h).1 rfl
 have ny : btw ∉ y := fun h => (sy _ h).1 rfl
 have tj : ∀ p q : List ByteArray, (∀ s ∈ p, s ≠ btw ∧ s.size ≤ 20) → (∀ s ∈ q, s ≠ btw ∧ s.size ≤ 20) → tiny (p ++ [btw] ++ q) := fun p q hp hq s h => by
  rcases List.mem_append.1 h with h | h
  ·rcases List.mem_append.1 h with h | h
   ·have := (hp s h).2
    omega
   ·rw [List.mem_singleton.1 h]
    show btw.size ≤ _
    have : btw.size = 7 := by kernel_rfl
    omega
  ·have := (hq s h).2
   omega
 have lj : ∀ p q : List ByteArray, p.length ≤ 20 → q.length ≤ 20 → (p ++ [btw] ++ q).length ≤ 41 := fun p q h1 h2 => by simp only [List.length_append, List.length_singleton]; omega
 refine Ev.step (fun k => by rw [sidinglaw18_MergeApart.l0]) ?_
 refine Ev.neg (by omega) (Ev.bc (joined18 a b btw la lb) (Ev.bc (joined18 x b btw lx lb) (Ev.bc (joined18 a y btw la ly) (Ev.bc (joined18 x y btw lx ly) ?_))))
 have l1 := lj a b la lb
 have l2 := lj x b lx lb
 have l3 := lj a y la ly
 rcases fit_ev (a ++ [btw] ++ b) (x ++ [btw] ++ b) (a ++ [btw] ++ y) (by omega) (by omega) (by omega) with h | ⟨h, t1, t2, t3, e1, e2, e3⟩
 ·exact Ev.bd h (Ev.neg Bool.false_ne_true (Ev.now _))
 ·refine Ev.bd h (Ev.pos rfl (Ev.bd (rlines_ev (x ++ [btw] ++ y) (tj x y sx sy)) ?_))
  by_cases ew : linesErr (x ++ [btw] ++ y) = 0
  ·refine Ev.pos ew ?_
   have hm := rmerge_ev _ _ _ t1 t2 t3
   rw [mergeR_ok e1 e2 e3] at hm
   have hsh := run_short (mergeOf_run (a ++ [btw] ++ b) (x ++ [btw] ++ b) (a ++ [btw] ++ y)).1
   have hsl := single_loop (mergeOf (a ++ [btw] ++ b) (x ++ [btw] ++ b) (a ++ [btw] ++ y)) (by omega) (fun p hp => by have := (hsh.2 p hp).1; omega) _ 0 (Nat.zero_add _)
   rw [List.drop_zero] at hsl
   have hsi : Ev (fun k => sidinglaw18_single.f k (a ++ [btw] ++ b) (x ++ [btw] ++ b) (a ++ [btw] ++ y)) ((mergeOf (a ++ [btw] ++ b) (x ++ [btw] ++ b) (a ++ [btw] ++ y)).any (fun x => decide (x.f0 = 1) && x.f1.any (fun s => decide (s = btw)))) := by
    unfold sidinglaw18_single.f
    exact Ev.bd hm hsl
   refine Ev.bd hsi ?_
   by_cases hv : (mergeOf (a ++ [btw] ++ b) (x ++ [btw] ++ b) (a ++ [btw] ++ y)).any (fun x => decide (x.f0 = 1) && x.f1.any (fun s => decide (s = btw))) = true
   ·refine Ev.pos hv (Ev.pos rfl ?_)
    obtain ⟨p, hp, hp2⟩ := List.any_eq_true.1 hv
    rw [Bool.and_eq_true, decide_eq_true_eq, List.any_eq_true] at hp2
    obtain ⟨hp1, s, hsm, hse⟩ := hp2
    rw [decide_eq_true_eq] at hse
    subst hse
    obtain ⟨z, u, v, h1, h2, hz⟩ := run_line (bestOf_greedy _ _) (bestOf_greedy _ _) (mergeOf_run (a ++ [btw] ++ b) (x ++ [btw] ++ b) (a ++ [btw] ++ y)).1 p hp hp1 btw hsm
    obtain ⟨r1, r2⟩ := apart_res a x b y btw na nx nb ny z u v h1 h2 hz
    exact Ev.bd (gives_ev _ _ _ _ t1.small t2.small t3.small e1 e2 e3 r1 r2 ew) (Ev.now _)
   ·exact Ev.neg hv (Ev.now _)
  ·exact Ev.neg ew (Ev.now _)
theorem MergeApart : sidinglaw18_MergeApart.Pure := by
 intro a x b y ha hx hb hy
 apply Ev.rounds (g := fun k => sidinglaw18_MergeApart.f k a x b y)
 unfold sidinglaw18_MergeApart.f
 refine Ev.bc rfl ?_
 have hout : Ev (fun k => sidinglaw18_MergeApart.j0 k a x b y true (⟨#[98, 101, 116, 119, 101, 101, 110]⟩ : ByteArray) true) true := by
  refine Ev.step (fun k => by rw [sidinglaw18_MergeApart.j0]) ?_
  exact Ev.pos rfl (Ev.now _)
 by_cases l1 : 20 < a.length
 ·exact Ev.pos (by omega) hout
 ·refine Ev.neg (by omega) ?_
  by_cases l2 : 20 < x.length
  ·exact Ev.pos (by omega) hout
  ·refine Ev.neg (by omega) ?_
   by_cases l3 : 20 < b.length
   ·exact Ev.pos (by omega) hout
   ·refine Ev.neg (by omega) ?_
    by_cases l4 : 20 < y.length
    ·exact Ev.pos (by omega) hout
    ·refine Ev.neg (by omega) ?_
     refine Ev.step (fun k => by rw [sidinglaw18_MergeApart.j0]) ?_
     refine Ev.neg Bool.false_ne_true (Ev.bs (Ev.pos (by simp only [List.length_nil]; omega) (Ev.bs (Ev.pos (by simp only [List.length_append, List.length_nil]; omega) (Ev.bs (Ev.pos (by simp only [List.length_append, List.length_nil]; omega) (Ev.bs (Ev.pos (by simp only [List.length_append, List.length_nil]; omega) ?_))))))))
     rw [List.nil_append]
     have hl : (a ++ x ++ b ++ y).length ≤ 1000000 := by simp only [List.length_append]; omega
     exact apart_loop a x b y (a ++ x ++ b ++ y) hl (fun hs => apart_tail a x b y _ rfl (by omega) (by omega) (by omega) (by omega) hs) (a ++ x ++ b ++ y).length 0 (Nat.zero_add _) (fun s h => by simp at h)
end Go.Proofs.Ytahpbpacjciddaa.Pure
end
section
namespace Go.Proofs.YtahpbpacjciddaaW.PrintWords
open Go Go.ChangeShapes Go.WideShapes Go.Deep
structure Rdb {α : Type} (P : Program) (t : TypeId) (d : Kd α) (wf : α → Prop) : Prop where
 cells : P.cellsOf t = d.sz
 rd : ∀ {H : Type} {enc : TypeId × Value → H} {w : World} {base : Nat} {spare : Nat → Bool} {held : Bool} {fuel : Nat} {cs : List Value} {x : DataW H × List MemPlace},
  DataW.trod enc P w base spare held fuel t cs = some x → (∀ n ∈ x.1.weights P t, n ≤ 140737488351232) → ∃ v, d.K w v cs ∧ wf v
theorem Rdb.int {P : Program} {t : TypeId} {k : IntKind} (ht : P.underlying t = some (.int k)) (hc : P.cellsOf t = 1) : Rdb P t (Kd.int k) (fun x => (Lit.int k x).wf = true) :=
 ⟨hc, fun h _ => by
  obtain ⟨n, rfl, _, hw⟩ := DataW.trod_int ht h
  exact ⟨n, rfl, hw⟩⟩
theorem Rdb.bool {P : Program} {t : TypeId} (ht : P.underlying t = some .bool) (hc : P.cellsOf t = 1) : Rdb P t Kd.bool (fun _ => True) :=
 ⟨hc, fun h _ => by
  obtain ⟨b, rfl, _⟩ := DataW.trod_bool ht h
  exact ⟨b, rfl, trivial⟩⟩
theorem Rdb.string {P : Program} {t : TypeId} (ht : P.underlying t = some .string) (hc : P.cellsOf t = 1) : Rdb P t Kd.string (fun s => s.size ≤ 140737488351232) :=
 ⟨hc, fun h hz => by
  obtain ⟨s, rfl, rfl, _⟩ := DataW.trod_string ht h
  refine ⟨s, rfl, ?_⟩
  have := hz s.data.toList.length (by simp [DataW.weights])
  rwa [data_length] at this⟩
theorem weightsAll_mem {H : Type} {P : Program} {e : TypeId} {d : DataW H} : ∀ {l : List (DataW H)}, d ∈ l → ∀ n ∈ d.weights P e, n ∈ DataW.weightsAll P e l
 | a :: l, hd, n, hn => by
  rcases List.mem_cons.1 hd with rfl | hd
  ·simp only [DataW.weightsAll, List.mem_append]
   exact .inl hn
  ·simp only [DataW.weightsAll, List.mem_append]
   exact .inr (weightsAll_mem hd n hn)
theorem cells_at {w : World} {base : Nat} {a : Addr} {n : Nat} {cs : List Value} (h : w.cells? base a n = some cs) : cs.length = n ∧ ∀ i u, cs[i]? = some u → w.cell? (a.add i) = some u := by
 unfold World.cells? at h
 split at h
 ·have hl := mapM_some_length h
  rw [List.length_range] at hl
  refine ⟨hl, fun i u hu => ?_⟩
  have hi : i < n := by
   have := (List.getElem?_eq_some_iff.1 hu).1
   omega
  have := mapM_some_get h i i (by simp [hi])
  rw [this, hu]
 ·cases h
theorem Rdb.slice {α : Type} [Inhabited α] {P : Program} {t e : TypeId} {d : Kd α} {wf : α → Prop} {B : Nat} (ht : P.underlying t = some (.slice e)) (hc : P.cellsOf t = 1) (hB : P.bytesOf e = B) (h : Rdb P e d wf) :
  Rdb P t (Kd.slice e d) (fun xs => xs.length * B ≤ 140737488351232 ∧ ∀ x ∈ xs, wf x) :=
 ⟨hc, fun {H enc w base spare held fuel cs x} hx hz => by
  rcases open_slice ht hx with ⟨rfl, _⟩ | ⟨a, len, cap, m, n, D, Pl, rfl, hb, hl, hm, hmm, rfl, hel⟩
  ·exact ⟨[], ⟨none, 0, rfl, Nat.le_refl _, rfl, by simp, fun hp => absurd hp (by simp)⟩, by simp, by simp⟩
  ·have hlm : len ≤ m := by
    rw [hmm]
    split
    ·exact hl
    ·exact Nat.le_refl _
   have hw : ∀ i, i < len → ∀ n ∈ (D i).weights P e, n ≤ 140737488351232 := by
    intro i hi n hn
    apply hz n
    simp only [DataW.weights, ht, List.mem_cons, List.mem_append]
    exact .inr (.inl (weightsAll_mem (List.mem_map.2 ⟨i, List.mem_range.2 hi, rfl⟩) n hn))
   have hlen : len * B ≤ 140737488351232 := by
    have := hz ((((List.range len).map D).length + ((List.range (m - len)).map fun j => D (len + j)).length) * P.bytesOf e) (by simp [DataW.weights, ht])
    rw [hB] at this
    simp only [List.length_map, List.length_range] at this
    exact Nat.le_trans (Nat.mul_le_mul_right _ (by omega)) this
   obtain ⟨V, hV⟩ := choose_lt (α := α) (n := len) (p := fun i v => ∃ c, c.length = d.sz ∧ d.K w v c ∧ (∀ j u, c[j]? = some u → w.cell? (a.add (i * d.sz + j)) = some u) ∧ wf v) (by
    intro i hi
    obtain ⟨cs', h1, h2⟩ := hel i (by omega)
    obtain ⟨v, hK, hwf⟩ := h.rd h2 (hw i hi)
    obtain ⟨_, hcell⟩ := cells_at h1
    refine ⟨v, cs', d.K_len hK, hK, fun j u hu => ?_, hwf⟩
    have := hcell j u hu
    rwa [h.cells, add_add] at this)
   refine ⟨(List.range len).map V, ⟨some a, cap, by simp, by simpa using hl, rfl, by simp; simp only [maxLen] at hm; omega, fun hp => ⟨a, rfl, fun j p hj => ?_⟩⟩, by simpa using hlen, ?_⟩
   ·have hjl : j < len := by
     have := (List.getElem?_eq_some_iff.1 hj).1
     simpa using this
    have : p = V j := by
     simp [hjl] at hj
     exact hj.symm
    subst this
    obtain ⟨c, h1, h2, h3, _⟩ := hV j hjl
    exact ⟨c, h1, h2, h3⟩
   ·intro p hp
    obtain ⟨i, hi, rfl⟩ := List.mem_map.1 hp
    obtain ⟨_, _, _, _, h4⟩ := hV i (List.mem_range.1 hi)
    exact h4⟩
def RdF {α : Type} (P : Program) (fs : List Field) (off : Nat) (d : Kd α) (wf : α → Prop) : Prop :=
 ∀ {H : Type} {enc : TypeId × Value → H} {w : World} {base : Nat} {spare : Nat → Bool} {held : Bool} {fuel : Nat} {cs : List Value} {xs : List (DataW H × List MemPlace)},
  (∀ (i : Nat) (f : Field), fs[i]? = some f → DataW.trod enc P w base spare held fuel f.type ((cs.drop f.offset).take (P.cellsOf f.type)) = xs[i]?) → xs.length = fs.length → cs.length = off + d.sz →
  (∀ n ∈ DataW.weightsEach P (fs.map (·.type)) (xs.map (·.1)), n ≤ 140737488351232) → ∃ v, d.K w v (cs.drop off) ∧ wf v
theorem RdF.last {α : Type} {P : Program} {f : Field} {off : Nat} {d : Kd α} {wf : α → Prop} (ho : f.offset = off) (h : Rdb P f.type d wf) : RdF P [f] off d wf := by
 intro H enc w base spare held fuel cs xs hf hl hc hz
 match xs, hl with
 | [x], _ =>
  have h1 := hf 0 f rfl
  rw [ho, h.cells, List.take_of_length_le (by rw [List.length_drop]; omega)] at h1
  exact h.rd h1 (fun n hn => hz n (by simp [DataW.weightsEach, hn]))
theorem RdF.cons {α β : Type} {P : Program} {f : Field} {fs : List Field} {off : Nat} {a : Kd α} {b : Kd β} {wa : α → Prop} {wb : β → Prop} (ho : f.offset = off) (h : Rdb P f.type a wa) (hr : RdF P fs (off + a.sz) b wb) : RdF P (f :: fs) off (Kd.pair a b) (fun x => wa x.1 ∧ wb x.2) := by
 intro H enc w base spare held fuel cs xs hf hl hc hz
 match xs, hl with
 | x :: xs, hl =>
  have hsz : (Kd.pair a b).sz = a.sz + b.sz := rfl
  have h1 := hf 0 f rfl
  rw [ho, h.cells] at h1
  obtain ⟨v, hv, hwv⟩ := h.rd h1 (fun n hn => hz n (by simp [DataW.weightsEach, hn]))
  obtain ⟨u, hu, hwu⟩ := hr (cs := cs) (xs := xs) (fun i g hg => by simpa using hf (i + 1) g (by simpa using hg)) (by simpa using hl) (by rw [hc, hsz]; omega) (fun n hn => hz n (by simp only [List.map_cons, DataW.weightsEach, List.mem_append]; exact .inr hn))
  refine ⟨(v, u), ⟨_, _, ?_, hv, hu⟩, hwv, hwu⟩
  rw [← List.drop_drop, List.take_append_drop]
theorem Rdb.struct {α β : Type} {P : Program} {t : TypeId} {fs : Array Field} {d : Kd α} {wf : α → Prop} (f : β → α) (g : α → β) (hfg : ∀ x, f (g x) = x) (ht : P.underlying t = some (.struct fs)) (hc : P.cellsOf t = d.sz) (h : RdF P fs.toList 0 d wf) :
  Rdb P t (Kd.iso d f) (fun x => wf (f x)) :=
 ⟨hc, fun hx hz => by
  obtain ⟨xs, n, _, rfl, hl, hlen, hf⟩ := DataW.trod_struct ht hx
  obtain ⟨v, hv, hw⟩ := h (xs := xs) (fun i f hi => hf i f (by simpa using hi)) (by simpa using hlen) (by rw [hl, hc, Nat.zero_add]) (fun n hn => hz n (by simpa [DataW.weights, ht] using hn))
  refine ⟨g v, ?_, ?_⟩
  ·show d.K _ (f (g v)) _
   rw [hfg]
   simpa using hv
  ·rw [hfg]
   exact hw⟩
theorem Rdb.top {α : Type} {H : Type} {enc : TypeId × Value → H} {P : Program} {W : World} {base : Nat} {spare : Nat → Bool} {held : Bool} {t e : TypeId} {d : Kd α} {wf : List α → Prop} {a : Option Addr} {len cap : Nat} {dd : DataW H} {ps : List MemPlace} {ts : List TypeId} {ds : List (DataW H)} {j : Nat}
  (R : Rdb P t (Kd.slice e d) wf) (hsz : (DataW.weightsEach P ts ds).all (· ≤ reachBytes) = true) (ht : ts[j]? = some t) (hd : ds[j]? = some dd)
  (h : DataW.Trod enc P W base spare held t (.slice a len cap) dd ps) : ∃ l : List α, len = l.length ∧ d.C W a l.length l ∧ l.length ≤ cap ∧ wf l := by
 obtain ⟨fuel, hf⟩ := h
 obtain ⟨l, ⟨A, c, he, hl, hC⟩, hw⟩ := R.rd hf (fun n hn => by
  have := List.all_eq_true.1 hsz _ (DataW.weights_mem_each ht hd n hn)
  exact of_decide_eq_true this)
 simp [Value.cells] at he
 obtain ⟨rfl, rfl, rfl⟩ := he
 exact ⟨l, rfl, hC, hl, hw⟩
end Go.Proofs.YtahpbpacjciddaaW.PrintWords
end
