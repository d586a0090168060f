/- ApplyDiff, the plain side: the difference of two lists, applied, gives the other one, and its inverse the first one again. -/
import Derived.Test.YtnajpgimhoighaaSDiff
import Derived.Test.YtnajpgimhoighaaSBoth
import Derived.Test.YtnajpgimhoighaaSZero
import Derived.Test.YtnajpgimhoighaaF7
namespace Go.Proofs.Ytnajpgimhoighaa.Pure
open Go Go.RowKit Go.Proofs.Ytnajpgimhoighaa.Pr Go.Proofs.YtnajpgimhoighaaW.PrintWords Go.Proofs.YtnajpgimhoighaaW.PrintLast Go.Proofs.YtnajpgimhoighaaW.PrintMore
set_option linter.unusedVariables false
set_option linter.unusedSimpArgs false

theorem diff_l0 (a b c d e : List ByteArray) (n : Nat) (hn : n ≤ 1000) (ha : a.length ≤ 60) (hb : b.length ≤ 60) (hc : c = b) (hd : d = a) (he : e = b) : ∀ (m i : Nat), i + m = n → Ev (fun k => sidinglaw16_ApplyDiff.l0 k a b true c d e (List.replicate n 0) (i : Int)) true := by
 subst hc
 subst hd
 subst he
 intro m
 induction m with
 | zero =>
  intro i hi
  refine Ev.step (fun k => by rw [sidinglaw16_ApplyDiff.l0]) ?_
  refine Ev.neg (by rw [List.length_replicate]; omega) (Ev.pos rfl (Ev.bd (same_ev _ _ (by omega)) (Ev.pos (by simp) (Ev.bd (same_ev _ _ (by omega)) (Ev.pos (by simp) (Ev.bd (same_ev _ _ (by omega)) (Ev.rt (by simp))))))))
 | succ m ih =>
  intro i hi
  refine Ev.step (fun k => by rw [sidinglaw16_ApplyDiff.l0]) ?_
  refine Ev.pos (by rw [List.length_replicate]; omega) (Ev.pos (by omega) ?_)
  rw [rd_at _ _ (by rw [List.length_replicate]; omega), List.getElem_replicate, w64 (by omega)]
  exact Ev.pos rfl (ih (i + 1) (by omega))
theorem ApplyDiff : sidinglaw16_ApplyDiff.Pure := by
 intro a b wa wb
 have main : Ev (fun k => sidinglaw16_ApplyDiff.f k a b) true := by
  have out : Ev (fun k => sidinglaw16_ApplyDiff.j0 k a b true true) true := by
   refine Ev.step (fun k => by rw [sidinglaw16_ApplyDiff.j0]) ?_
   exact Ev.pos rfl (Ev.now _)
  unfold sidinglaw16_ApplyDiff.f law16_alive.f
  refine Ev.bs (Ev.bd (long_ev a (by omega)) ?_)
  cases h1 : longOf a with
  | true => exact Ev.pos rfl out
  | false =>
   refine Ev.neg (by decide) (Ev.bd (long_ev b (by omega)) ?_)
   cases h2 : longOf b with
   | true => exact Ev.pos rfl out
   | false =>
    obtain ⟨la, ta⟩ := longOf_tiny h1
    obtain ⟨lb, tb⟩ := longOf_tiny h2
    refine Ev.neg (by decide) (Ev.bd (both_ev a b ta tb) ?_)
    by_cases hb : bothErr a b = 0
    ·refine Ev.pos hb ?_
     obtain ⟨e1, e2⟩ := bothErr_zero.1 hb
     have l1 := linesErr_len e1
     have l2 := linesErr_len e2
     have hck := diff_check hb
     have hfit := diff_fits a b _ 0 0 (bestOf_greedy a b).match (Nat.zero_le _)
     have happ := diff_appl a b
     obtain ⟨r, hr⟩ := diff_invert hb
     obtain ⟨l, hl⟩ : ∃ l, diffL a b 0 0 (bestOf a b) = l := ⟨_, rfl⟩
     have hdiff := diff_ev a b ta.small tb.small
     rw [if_pos hb] at hdiff
     rw [hl] at hck hfit happ hr hdiff
     obtain ⟨i1, i2⟩ := inv_inv hck hr
     obtain ⟨b1, b2⟩ := exact_back hck hfit hr
     rw [happ] at b1 b2
     have tl := chk_tiny hck
     have tr := chk_tiny i1
     have hE1 : bothE a l = 0 := by unfold bothE; rw [if_pos e1, hck]
     have hE2 : bothE b r = 0 := by unfold bothE; rw [if_pos e2, i1]
     have x1 : exactL a l = (b, 0) := by unfold exactL finL; rw [if_pos hE1, if_pos hfit, happ, if_pos e2]
     have x2 : exactL b r = (a, 0) := by unfold exactL finL; rw [if_pos hE2, if_pos b1, b2, if_pos e1]
     have x3 : invL l = (r, 0) := by unfold invL; rw [if_pos hck, hr]
     have x4 : movedL a l 20 = (b, List.replicate l.length 0, 0) := by rw [movedL_fits hE1 hfit (by decide) (by decide), happ, if_pos e2]
     have hlen := (checkL_zero hck).1
     refine Ev.step (fun k => by rw [sidinglaw16_ApplyDiff.j0]) ?_
     refine Ev.neg (by decide) (Ev.bd hdiff (Ev.bd (exact_ev a l ta tl) (Ev.bd (invert_ev l) ?_)))
     rw [x1, x3]
     refine Ev.bd (exact_ev b r tb tr) (Ev.bd (moved_ev a l 20 ta tl (by omega)) ?_)
     rw [x2, x4]
     refine Ev.pos rfl (Ev.pos rfl (Ev.pos rfl (Ev.pos rfl (Ev.pos rfl ?_))))
     refine Ev.step (fun k => by rw [sidinglaw16_ApplyDiff.j1]) ?_
     refine Ev.neg (by simp) ?_
     exact diff_l0 a b b a b l.length (by omega) l1 l2 rfl rfl rfl l.length 0 (by omega)
    ·exact Ev.neg hb out
 obtain ⟨k, hk⟩ := main.rounds
 exact ⟨k, hk⟩
end Go.Proofs.Ytnajpgimhoighaa.Pure
