/- ApplyMoves, the plain side: a list that fits is moved by nothing; what Moved gives is what the hunks give at their places; no hunk is moved further than reach; a greater reach changes nothing. -/
import Derived.Test.YtnajpgimhoighaaSZero
import Derived.Test.YtnajpgimhoighaaSFit16
import Derived.Test.YtnajpgimhoighaaSHunkF
import Derived.Test.YtnajpgimhoighaaF6
namespace Go.Proofs.Ytnajpgimhoighaa.Pure
open Go Go.RowKit Go.Proofs.Ytnajpgimhoighaa.Pr Go.Proofs.YtnajpgimhoighaaW.PrintWords Go.Proofs.YtnajpgimhoighaaW.PrintLast Go.Proofs.YtnajpgimhoighaaW.PrintMore Go.Proofs.Ytnajpgimhoighaa.Near
set_option linter.unusedVariables false
set_option linter.unusedSimpArgs false

theorem movedL_ok {a : List ByteArray} {l : List S46} {R : Nat} {x : List ByteArray} {bl : List Int} (h : movedL a l (R : Int) = (x, bl, 0)) (hb : bothE a l = 0) (hR : R ≤ 20) :
    ∃ pl, movedGo a R l 0 0 = some pl ∧ x = putL a 0 l pl ∧ bl = byL l pl ∧ linesErr x = 0 := by
  unfold movedL at h
  rw [if_pos hb, if_neg (by omega), Int.toNat_natCast] at h
  cases hg : movedGo a R l 0 0 with
  | none =>
    rw [hg] at h
    simp at h
  | some pl =>
    rw [hg] at h
    dsimp only at h
    split at h
    · rename_i h4
      simp only [Prod.mk.injEq] at h
      exact ⟨pl, rfl, h.1.symm, h.2.1.symm, by rw [← h.1]; exact h4⟩
    · rename_i h4
      simp only [Prod.mk.injEq] at h
      exact absurd h.2.2 h4
theorem byL_cons (h : S46) (l : List S46) (p : Int) (q : List Int) : byL (h :: l) (p :: q) = (p - h.f0) :: byL l q := rfl
theorem moves_l0 (a : List ByteArray) (l : List S46) (R : Nat) (more : Int) (ta : tiny a) (la : a.length ≤ 60) (ll : l.length ≤ 40) (hv : ∀ h ∈ l, validH h = true) (hR : R ≤ 20) (x : List ByteArray) (lx : x.length ≤ 60) (bl : List Int) (hbl : bl.length = l.length)
    (hm0 : 0 ≤ more) (hm : (R : Int) + more ≤ 20) (hmore : movedL a l ((R : Int) + more) = (x, bl, 0)) : ∀ (d i e : Nat) (off : Int) (out : List ByteArray) (q : List Int), i + d = l.length → e ≤ a.length → (-100 ≤ off ∧ off ≤ 100) → out.length ≤ 200 * i →
    movedGo a R (l.drop i) (e : Int) off = some q → bl.drop i = byL (l.drop i) q → out ++ putL a e (l.drop i) q = x →
    Ev (fun k => sidinglaw16_ApplyMoves.l0 k a l (R : Int) more true x bl off (e : Int) out (i : Int)) true := by
  intro d
  induction d with
  | zero =>
    intro i e off out q hi he ho hol hg hby hx
    obtain rfl : i = l.length := by omega
    rw [List.drop_length] at hg hby hx
    obtain rfl : [] = q := Option.some.inj hg
    have hx' : out ++ a.drop e = x := by simpa [putL] using hx
    refine Ev.step (fun k => by rw [sidinglaw16_ApplyMoves.l0]) ?_
    refine Ev.neg (by omega) (Ev.pos (by omega) (Ev.pos (by omega) (Ev.pos ?_ ?_)))
    · rw [Int.toNat_natCast, List.length_drop]; omega
    · rw [w64 (by omega), Int.toNat_natCast, hx']
      refine Ev.bd (moved_ev a l _ ta (fun y hy => valid_tiny (hv y hy)) (by omega)) ?_
      rw [hmore]
      exact Ev.pos rfl (Ev.bd (same_ev x x (by omega)) (Ev.pos (by simp) (Ev.pos rfl (Ev.bd (same_ev x x (by omega)) (Ev.rt (by simp))))))
  | succ d ih =>
    intro i e off out q hi he ho hol hg hby hx
    have h : i < l.length := by omega
    obtain ⟨v1, v2, _, _, v3, v4, _⟩ := validH_true (hv _ (List.getElem_mem h))
    rw [drop_at l i h] at hg hby hx
    unfold movedGo at hg
    obtain ⟨p, hp, hg⟩ := Option.bind_eq_some_iff.1 hg
    obtain ⟨q', hq', rfl⟩ := Option.map_eq_some_iff.1 hg
    obtain ⟨b1, b2, b3⟩ := movedGo_bound hp
    obtain ⟨pre, dd, post, e1, e2, e3, e4, e5⟩ := firstP_some hp
    have hdd : dd.natAbs ≤ R := upto_abs (by rw [e1]; simp)
    have hbi : i < bl.length := by omega
    rw [drop_at bl i hbi, byL_cons] at hby
    have hb0 : bl[i] = p - l[i].f0 := (List.cons.inj hby).1
    have hb1 : bl.drop (i + 1) = byL (l.drop (i + 1)) q' := (List.cons.inj hby).2
    obtain ⟨pn, rfl⟩ : ∃ pn : Nat, p = (pn : Int) := ⟨p.toNat, by omega⟩
    simp only [standsB, Bool.and_eq_true, decide_eq_true_eq] at e4
    obtain ⟨⟨s1, s2⟩, s3⟩ := e4
    have hseg : ((a.take pn).drop e).length = pn - e := by rw [List.length_drop, List.length_take]; omega
    refine Ev.step (fun k => by rw [sidinglaw16_ApplyMoves.l0]) ?_
    refine Ev.pos (by omega) (Ev.pos (by omega) (Ev.pos (by omega) ?_))
    rw [rd_at _ _ hbi, rd_h _ _ h, hb0]
    have w1 : wrap64 ((pn : Int) - l[i].f0 - off) = (pn : Int) - l[i].f0 - off := w64 (by omega)
    have w2 : wrap64 (off - ((pn : Int) - l[i].f0)) = off - ((pn : Int) - l[i].f0) := w64 (by omega)
    have w3 : wrap64 (l[i].f0 + ((pn : Int) - l[i].f0)) = (pn : Int) := by rw [w64 (by omega)]; omega
    have w4 : wrap64 ((pn : Int) + (l[i].f1.length : Int)) = (pn : Int) + (l[i].f1.length : Int) := w64 (by omega)
    have w5 : wrap64 ((i : Int) + 1) = ((i + 1 : Nat) : Int) := by rw [w64 (by omega)]; omega
    rw [w1, w2, w3, w4, w5]
    clear w1 w2 w3 w4 w5
    refine Ev.neg (by omega) (Ev.neg (by omega) (Ev.neg (by omega) (Ev.neg (by omega) (Ev.pos (by omega) (Ev.pos (by omega) (Ev.pos (by omega) (Ev.bd (same_ev _ _ (by rw [List.length_drop, List.length_take]; omega)) ?_)))))))
    rw [decide_eq_true s3]
    refine Ev.pos rfl (Ev.pos (by omega) (Ev.pos (by omega) (Ev.pos (by omega) ?_)))
    simp only [Int.toNat_natCast]
    refine Ev.pos (by rw [hseg]; omega) (Ev.bs (Ev.pos (by rw [List.length_append, hseg]; omega) ?_))
    have e6 : (pn : Int) + (l[i].f1.length : Int) = ((pn + l[i].f1.length : Nat) : Int) := by omega
    rw [e6]
    rw [e6] at hq'
    refine ih (i + 1) (pn + l[i].f1.length) ((pn : Int) - l[i].f0) (out ++ (a.take pn).drop e ++ l[i].f2) q' (by omega) (by omega) (by omega) (by rw [List.length_append, List.length_append, hseg]; omega) hq' hb1 ?_
    rw [← hx]
    simp [putL, List.append_assoc, -List.getElem_cons_drop]
theorem moves_j1 (a : List ByteArray) (l : List S46) (R : Nat) (more : Int) (ta : tiny a) (hb : bothE a l = 0) (hR : R ≤ 20) (hm0 : 0 ≤ more) (hm : (R : Int) + more ≤ 20) (x : List ByteArray) (bl : List Int) (e : Int) (hx : movedL a l (R : Int) = (x, bl, e)) :
    Ev (fun k => sidinglaw16_ApplyMoves.j1 k a l (R : Int) more true x bl e false) true := by
  obtain ⟨h1, h2⟩ := bothE_zero hb
  have la := linesErr_len h1
  have ll := (checkL_zero h2).1
  have hv := chk_valid (checkL_zero h2).2
  refine Ev.step (fun k => by rw [sidinglaw16_ApplyMoves.j1]) ?_
  refine Ev.neg (by decide) ?_
  by_cases he : e = 0
  · subst he
    obtain ⟨pl, hg, hxe, hbe, hx0⟩ := movedL_ok hx hb hR
    have hord := moved_ord a R l 0 0 pl (Nat.zero_le _) hg
    have hpl := inOrd_len hord
    have hbl : bl.length = l.length := by rw [hbe]; unfold byL; rw [List.length_map, List.length_zip]; omega
    have hmore : movedL a l ((R : Int) + more) = (x, bl, 0) := by
      unfold movedL
      have hg2 := movedGo_more a (R' := ((R : Int) + more).toNat) (show R ≤ ((R : Int) + more).toNat by omega) l 0 0 pl hg
      rw [if_pos hb, if_neg (by omega), hg2]
      dsimp only
      rw [← hxe, if_pos hx0, ← hbe]
    refine Ev.pos rfl (Ev.pos (by omega) ?_)
    exact moves_l0 a l R more ta la ll hv hR x (linesErr_len hx0) bl hbl hm0 hm hmore l.length 0 0 0 [] pl (by omega) (Nat.zero_le _) (by omega) (by simp) (by simpa using hg) (by simpa using hbe) (by simpa using hxe.symm)
  · refine Ev.neg he (Ev.pos rfl ?_)
    have hz : x = [] ∧ bl = [] := by
      unfold movedL at hx
      rw [if_pos hb, if_neg (by omega)] at hx
      split at hx
      · simp only [Prod.mk.injEq] at hx
        exact ⟨hx.1.symm, hx.2.1.symm⟩
      · split at hx
        · simp only [Prod.mk.injEq] at hx
          exact absurd hx.2.2.symm he
        · simp only [Prod.mk.injEq] at hx
          exact ⟨hx.1.symm, hx.2.1.symm⟩
    obtain ⟨rfl, rfl⟩ := hz
    exact Ev.pos rfl (Ev.rt rfl)
theorem ApplyMoves : sidinglaw16_ApplyMoves.Pure := by
  intro a l reach more wa wl wr wm
  obtain ⟨wl1, wl2⟩ := wf_lens wl
  have r1 := wf64 wr
  have r2 := wf64 wm
  have main : Ev (fun k => sidinglaw16_ApplyMoves.f k a l reach more) true := by
    have out : Ev (fun k => sidinglaw16_ApplyMoves.j0 k a l reach more true true) true := by
      refine Ev.step (fun k => by rw [sidinglaw16_ApplyMoves.j0]) ?_
      exact Ev.pos rfl (Ev.now _)
    unfold sidinglaw16_ApplyMoves.f law16_alive.f
    refine Ev.bs (Ev.bd (fit_ev a l (by omega) wl1 wl2) ?_)
    cases hfit : fitB a l with
    | false => exact Ev.neg (by decide) out
    | true =>
      obtain ⟨ta, tl, h1, h2⟩ := fitB_true hfit
      refine Ev.pos rfl ?_
      by_cases c1 : reach < 0
      · exact Ev.pos c1 out
      · refine Ev.neg c1 ?_
        by_cases c2 : more < 0
        · exact Ev.pos c2 out
        · refine Ev.neg c2 ?_
          by_cases c3 : more > 20
          · exact Ev.pos c3 out
          · refine Ev.neg c3 ?_
            rw [w64 (by omega)]
            by_cases c4 : reach > 20 - more
            · exact Ev.pos c4 out
            · refine Ev.neg c4 ?_
              obtain ⟨R, rfl⟩ : ∃ R : Nat, reach = (R : Int) := ⟨reach.toNat, by omega⟩
              have hb : bothE a l = 0 := by unfold bothE; rw [if_pos h1, h2]
              have la := linesErr_len h1
              obtain ⟨g1, g2, g3⟩ := fits_conds h2
              obtain ⟨⟨x, bl, e⟩, hx⟩ : ∃ z, movedL a l (R : Int) = z := ⟨_, rfl⟩
              have hj := moves_j1 a l R more ta hb (by omega) (by omega) (by omega) x bl e hx
              refine Ev.step (fun k => by rw [sidinglaw16_ApplyMoves.j0]) ?_
              refine Ev.neg (by decide) (Ev.bd (moved_ev a l _ ta tl (by omega)) (Ev.bd (exact_ev a l ta tl) (Ev.bd (fits_ev a l (by omega) (by omega) g1) ?_)))
              rw [hx]
              cases hf : fitsL a l with
              | false => exact Ev.neg (by decide) hj
              | true =>
                have hmz := movedL_fits hb hf (reach := (R : Int)) (by omega) (by omega)
                rw [hx] at hmz
                have hxe : exactL a l = finL (applL a l) := by unfold exactL; rw [if_pos hb, if_pos hf]
                rw [hxe]
                refine Ev.pos rfl ?_
                unfold finL
                by_cases h4 : linesErr (applL a l) = 0
                · rw [if_pos h4] at hmz
                  simp only [Prod.mk.injEq] at hmz
                  obtain ⟨rfl, rfl, rfl⟩ := hmz
                  rw [if_pos h4]
                  have := linesErr_len h4
                  refine Ev.pos rfl (Ev.pos rfl (Ev.bd (same_ev (applL a l) (applL a l) (by omega)) (Ev.pos (by simp) ?_)))
                  rw [show ((((List.replicate l.length (0 : Int)).length : Nat) : Int) != (l.length : Int)) = false by simp]
                  exact hj
                · rw [if_neg h4] at hmz
                  simp only [Prod.mk.injEq] at hmz
                  obtain ⟨rfl, rfl, rfl⟩ := hmz
                  rw [if_neg h4]
                  exact Ev.pos rfl (Ev.neg h4 hj)
  obtain ⟨k, hk⟩ := main.rounds
  exact ⟨k, hk⟩
end Go.Proofs.Ytnajpgimhoighaa.Pure
