/- LinesEnds: the front and the back are the same, what is left differs. Conditions: none beyond the statement's own. -/
import Derived.Test.YtiledjckdnkjgaaDoorSEnds
import Derived.Test.YtiledjckdnkjgaaDoorF3
namespace Go.Proofs.YtiledjckdnkjgaaDoor.Pure
open Go.RowKit Go.Proofs.YtiledjckdnkjgaaDoorW.PrintWords Go.Proofs.YtiledjckdnkjgaaDoorW.PrintLast Go.Proofs.YtiledjckdnkjgaaDoorW.PrintMore Go.Proofs.YtiledjckdnkjgaaDoor.Pr
set_option linter.unusedVariables false
set_option linter.unusedSimpArgs false

theorem mid_length (a : List ByteArray) (n p : Nat) (h : p ≤ a.length) : ((a.take p).drop n).length = p - n := by
  rw [List.length_drop, List.length_take]
  omega
theorem mid_at (a : List ByteArray) (n p i : Nat) (h : p ≤ a.length) (hi : n + i < p) : rdOf ByteArray.empty ((a.take p).drop n) (i : Int) = a[n + i]'(by omega) := by
  rw [rdOf_at _ _ i (by rw [mid_length a n p h]; omega)]
  simp
theorem LinesEnds : sidinglaw13_LinesEnds.Pure := by
  intro a b ha hb
  apply Ev.rounds (g := fun k => sidinglaw13_LinesEnds.f k a b)
  unfold sidinglaw13_LinesEnds.f
  have yes : Ev (fun k => sidinglaw13_LinesEnds.j0 k a b true true) true := Ev.step (fun k => by rw [sidinglaw13_LinesEnds.j0]) (Ev.pos (by first | rfl | trivial) (Ev.now _))
  refine Ev.bc (a := true) rfl (Ev.bd (long_ev a (by omega)) ?_)
  by_cases h1 : longOf a = true
  · exact Ev.pos h1 yes
  · refine Ev.neg h1 (Ev.bd (long_ev b (by omega)) ?_)
    by_cases h2 : longOf b = true
    · exact Ev.pos h2 yes
    · obtain ⟨na, ta⟩ := longOf_tiny (Bool.eq_false_iff.2 h1)
      obtain ⟨nb, tb⟩ := longOf_tiny (Bool.eq_false_iff.2 h2)
      refine Ev.neg h2 (Ev.bd (rlines_ev a ta) ?_)
      by_cases h3 : linesErr a = 0
      · refine Ev.pos h3 (Ev.bd (rlines_ev b tb) ?_)
        by_cases h4 : linesErr b = 0
        · refine Ev.pos h4 (Ev.step (fun k => by rw [sidinglaw13_LinesEnds.j0]) (Ev.neg (by decide) ?_))
          have cc := common_ev a b ta.small tb.small
          unfold commonR at cc
          rw [if_pos h3, if_pos h4] at cc
          refine Ev.bd cc ?_
          clear cc
          obtain ⟨l1, l2⟩ := cf_le a b
          obtain ⟨m1, m2⟩ := cb_le a b (cf a b)
          have t1 := cf_take a b
          have t2 := cb_drop a b (cf a b) l1 l2
          have d1 := cf_ne2 a b
          have d2 := cb_ne2 a b (cf a b)
          generalize cf a b = n at *
          generalize cb a b n = c at *
          have w1 : wrap64 ((n : Int) + (c : Int)) = ((n + c : Nat) : Int) := by rw [w64 (by omega)]; omega
          have w2 : wrap64 ((a.length : Int) - (c : Int)) = ((a.length - c : Nat) : Int) := by rw [w64 (by omega)]; omega
          have w3 : wrap64 ((b.length : Int) - (c : Int)) = ((b.length - c : Nat) : Int) := by rw [w64 (by omega)]; omega
          dsimp only
          rw [w1, w2, w3]
          simp only [Int.toNat_natCast]
          have s1 := same_ev (a.take n) (b.take n) (by rw [List.length_take]; omega)
          rw [decide_eq_true t1] at s1
          have s2 := same_ev (a.drop (a.length - c)) (b.drop (b.length - c)) (by rw [List.length_drop]; omega)
          rw [decide_eq_true t2] at s2
          refine Ev.pos (by first | rfl | trivial) (Ev.neg (by omega) (Ev.neg (by omega) (Ev.neg (by omega) (Ev.neg (by omega) (Ev.pos (by omega) (Ev.pos (by omega) (Ev.pos (by omega) (Ev.bd s1 (Ev.pos (by first | rfl | trivial) (Ev.pos (by omega) (Ev.pos (by omega) (Ev.pos (by omega) (Ev.pos (by omega) (Ev.bd s2 (Ev.step (fun k => by rw [sidinglaw13_LinesEnds.j1]) (Ev.neg (by decide) ?_))))))))))))))))
          rw [w2, w3]
          simp only [Int.toNat_natCast]
          have q1 := mid_length a n (a.length - c) (by omega)
          have q2 := mid_length b n (b.length - c) (by omega)
          refine Ev.pos (by omega) (Ev.pos (by omega) (Ev.pos (by omega) (Ev.pos (by omega) (Ev.pos (by omega) ?_))))
          rw [q1, q2]
          by_cases z1 : a.length - c - n = 0
          · exact Ev.pos (by omega) (Ev.now _)
          · refine Ev.neg (by omega) ?_
            by_cases z2 : b.length - c - n = 0
            · exact Ev.pos (by omega) (Ev.now _)
            · have e1 := mid_at a n (a.length - c) 0 (by omega) (by omega)
              have e2 := mid_at b n (b.length - c) 0 (by omega) (by omega)
              have e3 := mid_at a n (a.length - c) (a.length - c - n - 1) (by omega) (by omega)
              have e4 := mid_at b n (b.length - c) (b.length - c - n - 1) (by omega) (by omega)
              have w4 : wrap64 (((a.length - c - n : Nat) : Int) - 1) = ((a.length - c - n - 1 : Nat) : Int) := by rw [w64 (by omega)]; omega
              have w5 : wrap64 (((b.length - c - n : Nat) : Int) - 1) = ((b.length - c - n - 1 : Nat) : Int) := by rw [w64 (by omega)]; omega
              have n1 : a[n]'(by omega) ≠ b[n]'(by omega) := fun e => d1 (by omega) (by omega) (by rw [List.getElem?_eq_getElem (by omega), List.getElem?_eq_getElem (by omega), e])
              have n2 : a[a.length - 1 - c]'(by omega) ≠ b[b.length - 1 - c]'(by omega) := fun e => d2 (by omega) (by omega) (by rw [List.getElem?_eq_getElem (by omega), List.getElem?_eq_getElem (by omega), e])
              simp only [Int.natCast_zero, Nat.add_zero, show ((0 : Nat) : Int) = 0 from rfl] at e1 e2
              have i3 : n + (a.length - c - n - 1) = a.length - 1 - c := by omega
              have i4 : n + (b.length - c - n - 1) = b.length - 1 - c := by omega
              simp only [i3] at e3
              simp only [i4] at e4
              rw [w4, w5, e1, e2, e3, e4]
              refine Ev.neg (by omega) (Ev.pos (by first | rfl | trivial) (Ev.pos (by omega) (Ev.pos (by omega) (Ev.neg (fun h => n1 (toList_inj.1 h)) (Ev.pos (by omega) (Ev.pos (by omega) (Ev.pos (by omega) (Ev.pos (by omega) (Ev.rt ?_)))))))))
              rw [bne_iff_ne]
              exact fun h => n2 (toList_inj.1 h)
        · exact Ev.neg h4 yes
      · exact Ev.neg h3 yes
end Go.Proofs.YtiledjckdnkjgaaDoor.Pure
