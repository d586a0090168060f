/- LinesReplaces: replacing lines by what was there changes nothing; the middle that differs, replaced, gives the other list. Conditions: none beyond the statement's own. -/
import Derived.Test.YtiledjckdnkjgaaDoorSEnds
import Derived.Test.YtiledjckdnkjgaaDoorF4
namespace Go.Proofs.YtiledjckdnkjgaaDoor.Pure
open Go.RowKit Go.Proofs.YtiledjckdnkjgaaDoorW.PrintWords Go.Proofs.YtiledjckdnkjgaaDoorW.PrintLast Go.Proofs.YtiledjckdnkjgaaDoorW.PrintMore Go.Proofs.YtiledjckdnkjgaaDoor.Pr
set_option linter.unusedVariables false
set_option linter.unusedSimpArgs false

theorem replaceR_of (l m x : List ByteArray) (p q : Nat) (hl : linesErr l = 0) (hp : p ≤ q) (hq : q ≤ l.length) (hm : m.any feedy = false) (hx : l.take p ++ m ++ l.drop q = x) (hex : linesErr x = 0) : replaceR l (p : Int) (q : Int) m = (x, 0) := by
  unfold replaceR
  rw [if_pos hl, if_neg (by omega), if_neg (by rw [hm]; decide), Int.toNat_natCast, Int.toNat_natCast, hx, if_pos hex]
theorem any_mid {l : List ByteArray} (h : l.any feedy = false) (p n : Nat) : ((l.take p).drop n).any feedy = false := by
  rw [List.any_eq_false] at h ⊢
  exact fun s hs => h s (List.mem_of_mem_take (List.mem_of_mem_drop hs))
theorem LinesReplaces : sidinglaw13_LinesReplaces.Pure := by
  intro a b p q ha hb hp hq
  apply Ev.rounds (g := fun k => sidinglaw13_LinesReplaces.f k a b p q)
  unfold sidinglaw13_LinesReplaces.f
  have yes : Ev (fun k => sidinglaw13_LinesReplaces.j0 k a b p q true true) true := Ev.step (fun k => by rw [sidinglaw13_LinesReplaces.j0]) (Ev.pos (by first | rfl | trivial) (Ev.now _))
  have yes3 : Ev (fun k => sidinglaw13_LinesReplaces.j3 k a p q true true) true := Ev.step (fun k => by rw [sidinglaw13_LinesReplaces.j3]) (Ev.pos (by first | rfl | trivial) (Ev.now _))
  refine Ev.bc (a := true) rfl (Ev.bd (long_ev a (by omega)) ?_)
  by_cases h1 : longOf a = true
  · exact Ev.pos h1 yes
  · refine Ev.neg h1 (Ev.bd (long_ev b (by omega)) ?_)
    by_cases h2 : longOf b = true
    · exact Ev.pos h2 yes
    · obtain ⟨na, ta⟩ := longOf_tiny (Bool.eq_false_iff.2 h1)
      obtain ⟨nb, tb⟩ := longOf_tiny (Bool.eq_false_iff.2 h2)
      refine Ev.neg h2 (Ev.bd (rlines_ev a ta) ?_)
      by_cases h3 : linesErr a = 0
      · refine Ev.pos h3 (Ev.bd (rlines_ev b tb) ?_)
        by_cases h4 : linesErr b = 0
        · refine Ev.pos h4 (Ev.step (fun k => by rw [sidinglaw13_LinesReplaces.j0]) (Ev.neg (by decide) ?_))
          have cc := common_ev a b ta.small tb.small
          unfold commonR at cc
          rw [if_pos h3, if_pos h4] at cc
          refine Ev.bd cc ?_
          clear cc
          obtain ⟨l1, l2⟩ := cf_le a b
          obtain ⟨m1, m2⟩ := cb_le a b (cf a b)
          have t1 := cf_take a b
          have t2 := cb_drop a b (cf a b) l1 l2
          generalize cf a b = n at *
          generalize cb a b n = c at *
          have w1 : wrap64 ((n : Int) + (c : Int)) = ((n + c : Nat) : Int) := by rw [w64 (by omega)]; omega
          have w2 : wrap64 ((a.length : Int) - (c : Int)) = ((a.length - c : Nat) : Int) := by rw [w64 (by omega)]; omega
          have w3 : wrap64 ((b.length : Int) - (c : Int)) = ((b.length - c : Nat) : Int) := by rw [w64 (by omega)]; omega
          dsimp only
          rw [w1, decide_eq_false (show ¬ (((n + c : Nat) : Int) > (b.length : Int)) by omega)]
          refine Ev.pos (by first | rfl | trivial) (Ev.neg (by omega) (Ev.neg (by omega) (Ev.neg (by omega) (Ev.step (fun k => by rw [sidinglaw13_LinesReplaces.j1]) (Ev.neg (by decide) ?_)))))
          rw [w2, w3]
          simp only [Int.toNat_natCast]
          obtain ⟨ga1, ga2, ga3, ga4⟩ := linesErr_zero h3
          obtain ⟨gb1, gb2, gb3, gb4⟩ := linesErr_zero h4
          have hx : a.take n ++ (b.take (b.length - c)).drop n ++ a.drop (a.length - c) = b := by
            rw [t1, t2]
            have e : b.take n ++ (b.take (b.length - c)).drop n = b.take (b.length - c) := by
              have e1 : b.take n = (b.take (b.length - c)).take n := by rw [List.take_take, Nat.min_eq_left (by omega)]
              rw [e1, List.take_append_drop]
            rw [e, List.take_append_drop]
          have r1 := replace_ev a (n : Int) ((a.length - c : Nat) : Int) ((b.take (b.length - c)).drop n) ta.small ((tb.take _).drop _).small (by rw [List.length_drop, List.length_take]; omega)
          rw [replaceR_of a _ b n (a.length - c) h3 (by omega) (by omega) (any_mid gb4 _ _) hx h4] at r1
          have s1 := same_ev b b (by omega)
          rw [decide_eq_true rfl] at s1
          refine Ev.pos (by omega) (Ev.pos (by omega) (Ev.pos (by omega) (Ev.bd r1 (Ev.pos (by first | rfl | trivial) (Ev.bd s1 (Ev.step (fun k => by rw [sidinglaw13_LinesReplaces.j2]) (Ev.neg (by decide) ?_)))))))
          by_cases z1 : p < 0
          · exact Ev.pos z1 yes3
          · refine Ev.neg z1 ?_
            by_cases z2 : q < p
            · exact Ev.pos z2 yes3
            · refine Ev.neg z2 ?_
              by_cases z3 : q > (a.length : Int)
              · rw [decide_eq_true z3]
                exact yes3
              · rw [decide_eq_false z3]
                obtain ⟨p, rfl⟩ : ∃ i : Nat, p = (i : Int) := ⟨p.toNat, by omega⟩
                obtain ⟨q, rfl⟩ : ∃ i : Nat, q = (i : Int) := ⟨q.toNat, by omega⟩
                refine Ev.step (fun k => by rw [sidinglaw13_LinesReplaces.j3]) (Ev.neg (by decide) ?_)
                simp only [Int.toNat_natCast]
                have hy : a.take p ++ (a.take q).drop p ++ a.drop q = a := by
                  have e : a.take p ++ (a.take q).drop p = a.take q := by
                    have e1 : a.take p = (a.take q).take p := by rw [List.take_take, Nat.min_eq_left (by omega)]
                    rw [e1, List.take_append_drop]
                  rw [e, List.take_append_drop]
                have r2 := replace_ev a (p : Int) (q : Int) ((a.take q).drop p) ta.small ((ta.take _).drop _).small (by rw [List.length_drop, List.length_take]; omega)
                rw [replaceR_of a _ a p q h3 (by omega) (by omega) (any_mid ga4 _ _) hy h3] at r2
                have s2 := same_ev a a (by omega)
                exact Ev.pos (by omega) (Ev.pos (by omega) (Ev.pos (by omega) (Ev.bd r2 (Ev.pos (by first | rfl | trivial) (Ev.pos (by first | rfl | trivial) (Ev.bd s2 (Ev.rt (by simp))))))))
        · exact Ev.neg h4 yes
      · exact Ev.neg h3 yes
end Go.Proofs.YtiledjckdnkjgaaDoor.Pure
