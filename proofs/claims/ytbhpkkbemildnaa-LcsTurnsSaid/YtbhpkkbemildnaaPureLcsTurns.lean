/- LcsTurns: with both lists exchanged, or the other way about, the number is the same; a line in front of both makes it greater by one. Conditions: none beyond the statement's own. -/
import Derived.Test.YtbhpkkbemildnaaSLaw14
import Derived.Test.YtbhpkkbemildnaaF6
namespace Go.Proofs.Ytbhpkkbemildnaa.Pure
open Go.RowKit Go.Proofs.YtbhpkkbemildnaaW.PrintWords Go.Proofs.YtbhpkkbemildnaaW.PrintLast Go.Proofs.YtbhpkkbemildnaaW.PrintMore Go.Proofs.Ytbhpkkbemildnaa.Pr
set_option linter.unusedVariables false
set_option linter.unusedSimpArgs false

theorem valid_reverse {l : List ByteArray} (h : linesErr l = 0) : linesErr l.reverse = 0 := by
  have hb : bytesIn l.reverse = bytesIn l := by
    unfold bytesIn
    rw [List.map_reverse, List.sum_reverse]
  have hf : l.reverse.any feedy = l.any feedy := List.any_reverse
  unfold linesErr at h ⊢
  rw [List.length_reverse, hb, hf]
  exact h
theorem tiny_reverse {l : List ByteArray} (h : tiny l) : tiny l.reverse := fun s hs => h s (List.mem_reverse.1 hs)

theorem turns_end (a b : List ByteArray) (s : ByteArray) (ta : tiny a) (tb : tiny b) (hs : s.size ≤ 1000) (he : bothErr a b = 0) (n : Int) (hn : n = (lcsLen a b : Int)) : Ev (fun k => sidinglaw14_LcsTurns.j4 k a b s true n false) true := by
  obtain ⟨za, zb⟩ := bothErr_zero.1 he
  obtain ⟨la, _⟩ := linesErr_zero za
  obtain ⟨lb, _⟩ := linesErr_zero zb
  refine Ev.step (fun k => by rw [sidinglaw14_LcsTurns.j4]) ?_
  refine Ev.neg (by decide) (Ev.bs (Ev.pos (by simp only [List.length_singleton]; omega) (Ev.bs (Ev.bs (Ev.pos (by simp only [List.length_singleton]; omega) (Ev.bs (Ev.bd (fit_ev _ _ (by simp; omega) (by simp; omega)) ?_)))))))
  have t1 : tiny ([s] ++ a) := (show tiny [s] from fun x hx => by rw [List.mem_singleton.1 hx]; omega).append ta
  have t2 : tiny ([s] ++ b) := (show tiny [s] from fun x hx => by rw [List.mem_singleton.1 hx]; omega).append tb
  by_cases h : fitB ([s] ++ a) ([s] ++ b) = true
  · refine Ev.pos h ?_
    have e := (fitB_true h).2.2
    have d := length_ev _ _ t1.small t2.small
    rw [if_pos e] at d
    have g : lcsLen ([s] ++ a) ([s] ++ b) = lcsLen a b + 1 := by
      show lcsLen (s :: a) (s :: b) = _
      rw [lcsLen_cons, if_pos rfl]
    have g1 := lcsLen_le_left a b
    refine Ev.bd d (Ev.pos rfl (Ev.pos rfl (Ev.rt ?_)))
    rw [g, hn, w64 (by omega)]
    simp
  · exact Ev.neg h (Ev.now _)
theorem turns_l1 (a b : List ByteArray) (s : ByteArray) (ta : tiny a) (tb : tiny b) (hs : s.size ≤ 1000) (he : bothErr a b = 0) (n : Int) (hn : n = (lcsLen a b : Int)) : ∀ k, k ≤ b.length → Ev (fun m => sidinglaw14_LcsTurns.l1 m a b s true n a.reverse (b.drop k).reverse ((k : Int) - 1)) true := by
  obtain ⟨za, zb⟩ := bothErr_zero.1 he
  obtain ⟨la, _⟩ := linesErr_zero za
  obtain ⟨lb, _⟩ := linesErr_zero zb
  intro k
  induction k with
  | zero =>
    intro _
    refine Ev.step (fun m => by rw [sidinglaw14_LcsTurns.l1]) ?_
    have d := length_ev a.reverse b.reverse (tiny_reverse ta).small (tiny_reverse tb).small
    rw [if_pos (bothErr_zero.2 ⟨valid_reverse za, valid_reverse zb⟩), lcsLen_reverse] at d
    refine Ev.neg (by omega) (Ev.bd d (Ev.pos rfl ?_))
    have e : ((((lcsLen a b : Int), (0 : Int)) : Int × Int).1 != n) = false := by
      rw [hn]
      simp
    rw [e]
    exact turns_end a b s ta tb hs he n hn
  | succ k ih =>
    intro hk
    have hlt : k < b.length := by omega
    have e0 : ((k + 1 : Nat) : Int) - 1 = (k : Int) := by omega
    rw [e0]
    refine Ev.step (fun m => by rw [sidinglaw14_LcsTurns.l1]) ?_
    refine Ev.pos (by omega) (Ev.pos (by omega) (Ev.pos (by omega) (Ev.pos (by rw [List.length_reverse, List.length_drop]; omega) ?_)))
    rw [rdOf_at _ b k hlt, w64 (by omega)]
    have := ih (by omega)
    rw [drop_at b k hlt, List.reverse_cons] at this
    exact this
theorem turns_l0 (a b : List ByteArray) (s : ByteArray) (ta : tiny a) (tb : tiny b) (hs : s.size ≤ 1000) (he : bothErr a b = 0) (n : Int) (hn : n = (lcsLen a b : Int)) : ∀ k, k ≤ a.length → Ev (fun m => sidinglaw14_LcsTurns.l0 m a b s true n (a.drop k).reverse ((k : Int) - 1)) true := by
  obtain ⟨za, zb⟩ := bothErr_zero.1 he
  obtain ⟨la, _⟩ := linesErr_zero za
  obtain ⟨lb, _⟩ := linesErr_zero zb
  intro k
  induction k with
  | zero =>
    intro _
    refine Ev.step (fun m => by rw [sidinglaw14_LcsTurns.l0]) ?_
    refine Ev.neg (by omega) ?_
    rw [w64 (by omega)]
    have := turns_l1 a b s ta tb hs he n hn b.length (Nat.le_refl _)
    rw [List.drop_length] at this
    exact this
  | succ k ih =>
    intro hk
    have hlt : k < a.length := by omega
    have e0 : ((k + 1 : Nat) : Int) - 1 = (k : Int) := by omega
    rw [e0]
    refine Ev.step (fun m => by rw [sidinglaw14_LcsTurns.l0]) ?_
    refine Ev.pos (by omega) (Ev.pos (by omega) (Ev.pos (by omega) (Ev.pos (by rw [List.length_reverse, List.length_drop]; omega) ?_)))
    rw [rdOf_at _ a k hlt, w64 (by omega)]
    have := ih (by omega)
    rw [drop_at a k hlt, List.reverse_cons] at this
    exact this

theorem LcsTurns : sidinglaw14_LcsTurns.Pure := by
  intro a b s ha hb hs
  apply Ev.rounds (g := fun k => sidinglaw14_LcsTurns.f k a b s)
  unfold sidinglaw14_LcsTurns.f
  have hla : a.length ≤ 9000000000000000000 := by omega
  have hlb : b.length ≤ 9000000000000000000 := by omega
  have yes : Ev (fun k => sidinglaw14_LcsTurns.j0 k a b s true true) true := Ev.step (fun k => by rw [sidinglaw14_LcsTurns.j0]) (Ev.pos rfl (Ev.now _))
  refine Ev.bd alive14_ev (Ev.bd (fit_ev a b hla hlb) ?_)
  by_cases h1 : fitB a b = true
  · refine Ev.pos h1 ?_
    by_cases h2 : (s.size : Int) > 1000
    · exact Ev.pos h2 yes
    · refine Ev.neg h2 ?_
      obtain ⟨ta, tb, e1⟩ := fitB_true h1
      obtain ⟨za, zb⟩ := bothErr_zero.1 e1
      obtain ⟨la, _⟩ := linesErr_zero za
      obtain ⟨lb, _⟩ := linesErr_zero zb
      have d1 := length_ev a b ta.small tb.small
      have d2 := length_ev b a tb.small ta.small
      rw [if_pos e1] at d1
      rw [if_pos (bothErr_zero.2 ⟨zb, za⟩), lcsLen_comm b a] at d2
      have g1 := lcsLen_le_left a b
      have g2 := lcsLen_le_right a b
      refine Ev.step (fun k => by rw [sidinglaw14_LcsTurns.j0]) ?_
      refine Ev.neg (by decide) (Ev.bd d1 (Ev.bd d2 (Ev.pos rfl (Ev.pos rfl (Ev.pos rfl (Ev.neg (by show ¬ ((lcsLen a b : Int) < 0); omega) ?_))))))
      have e : decide ((((lcsLen a b : Int), (0 : Int)) : Int × Int).1 > mn (a.length : Int) (b.length : Int)) = false := by
        rw [mn_eq, decide_eq_false_iff_not]
        show ¬ ((lcsLen a b : Int) > _)
        omega
      rw [e]
      refine Ev.step (fun k => by rw [sidinglaw14_LcsTurns.j1]) ?_
      refine Ev.neg (by decide) ?_
      rw [w64 (by omega)]
      have := turns_l0 a b s ta tb (by omega) e1 (lcsLen a b : Int) rfl a.length (Nat.le_refl _)
      rw [List.drop_length] at this
      exact this
  · exact Ev.neg h1 yes
end Go.Proofs.Ytbhpkkbemildnaa.Pure
