/- ApplyDoes, the plain side: Exact, Moved and Invert return what the reference returns. -/
import Derived.Test.YtnajpgimhoighaaSMoved
import Derived.Test.YtnajpgimhoighaaF3
namespace Go.Proofs.Ytnajpgimhoighaa.Pure
open Go Go.RowKit Go.Proofs.Ytnajpgimhoighaa.Pr Go.Proofs.YtnajpgimhoighaaW.PrintWords Go.Proofs.YtnajpgimhoighaaW.PrintLast Go.Proofs.YtnajpgimhoighaaW.PrintMore
set_option linter.unusedVariables false
set_option linter.unusedSimpArgs false

theorem movedGo_len (a : List ByteArray) (R : Nat) : ∀ (l : List S46) (e off : Int) (pl : List Int), movedGo a R l e off = some pl → pl.length = l.length
 | [], e, off, pl, h => by
  obtain rfl : [] = pl := Option.some.inj h
  rfl
 | h :: l, e, off, pl, hg => by
  unfold movedGo at hg
  obtain ⟨p, hp, hg⟩ := Option.bind_eq_some_iff.1 hg
  obtain ⟨q, hq, rfl⟩ := Option.map_eq_some_iff.1 hg
  simp [movedGo_len a R l _ _ q hq]
theorem putL_len (a : List ByteArray) : ∀ (l : List S46) (pl : List Int) (at_ : Nat), (∀ h ∈ l, h.f2.length ≤ 1000000) → (putL a at_ l pl).length ≤ a.length + l.length * (a.length + 1000000)
 | [], _, at_, _ => by unfold putL; rw [List.length_drop]; omega
 | h :: l, [], at_, _ => by unfold putL; rw [List.length_drop]; omega
 | h :: l, p :: pl, at_, hv => by
  unfold putL
  have ih := putL_len a l pl (p.toNat + h.f1.length) (fun x hx => hv x (List.mem_cons_of_mem _ hx))
  have h2 := hv h List.mem_cons_self
  rw [List.length_append, List.length_append, List.length_drop, List.length_take, List.length_cons, Nat.add_mul, Nat.one_mul]
  omega
theorem finL_len {r : List ByteArray} (h : r.length ≤ 8000000000000000000) : (finL r).1.length ≤ 8000000000000000000 := by
 unfold finL
 split
 ·exact h
 ·simp
theorem linesErr_fin {r : List ByteArray} (h : linesErr r = 0) : r.length ≤ 60 := linesErr_len h
theorem exactL_len (a : List ByteArray) (l : List S46) : (exactL a l).1.length ≤ 60 := by
 unfold exactL
 split
 ·split
  ·unfold finL
   split
   ·rename_i h
    exact linesErr_len h
   ·simp
  ·simp
 ·simp
theorem movedL_len (a : List ByteArray) (l : List S46) (reach : Int) : (movedL a l reach).1.length ≤ 60 ∧ ((movedL a l reach).2.1.length ≤ l.length) := by
 unfold movedL
 split
 ·split
  ·simp
  ·split
   ·simp
   ·split
    ·rename_i h
     refine ⟨linesErr_len h, ?_⟩
     unfold byL
     rw [List.length_map, List.length_zip]
     exact Nat.min_le_left _ _
    ·simp
 ·simp
theorem invL_tiny {l : List S46} (hl : ∀ h ∈ l, tinyH h) : (∀ h ∈ (invL l).1, h.f1.length ≤ 1000000000 ∧ h.f2.length ≤ 1000000000) ∧ (invL l).1.length ≤ l.length := by
 have key : ∀ (l : List S46) (more : Int) (r : List S46), (∀ h ∈ l, tinyH h) → invFrom more l = some r → (∀ h ∈ r, h.f1.length ≤ 1000000000 ∧ h.f2.length ≤ 1000000000) ∧ r.length ≤ l.length := by
  intro l
  induction l with
  | nil =>
   intro more r _ hr
   obtain rfl : [] = r := Option.some.inj hr
   exact ⟨(fun _ hx => by cases hx), Nat.le_refl _⟩
  | cons h l ih =>
   intro more r hl hr
   unfold invFrom at hr
   split at hr
   ·cases hr
   ·obtain ⟨r', hr', rfl⟩ := Option.map_eq_some_iff.1 hr
    obtain ⟨i1, i2⟩ := ih _ _ (fun x hx => hl x (List.mem_cons_of_mem _ hx)) hr'
    obtain ⟨_, _, t3, t4⟩ := hl h List.mem_cons_self
    refine ⟨fun x hx => ?_, by simp; omega⟩
    rcases List.mem_cons.1 hx with rfl | hx
    ·exact ⟨by show h.f2.length ≤ _; omega, by show h.f1.length ≤ _; omega⟩
    ·exact i1 x hx
 unfold invL
 split
 ·cases hr : invFrom 0 l with
  | none => simp
  | some r => exact key l 0 r hl hr
 ·simp
theorem ApplyDoes : sidinglaw16_ApplyDoes.Pure := by
 intro a l reach wa wl wr
 have wl1 : l.length ≤ 9000000000000000000 := by omega
 have wl2 : ∀ h ∈ l, h.f1.length ≤ 9000000000000000000 ∧ h.f2.length ≤ 9000000000000000000 := fun h hh => by
  obtain ⟨_, ⟨h1, _⟩, ⟨h2, _⟩⟩ := wl.2 h hh
  omega
 have main : Ev (fun k => sidinglaw16_ApplyDoes.f k a l reach) true := by
  unfold sidinglaw16_ApplyDoes.f
  refine Ev.bd (long_ev a (by omega)) ?_
  cases h1 : longOf a with
  | true =>
   refine Ev.pos rfl (Ev.step (fun k => by rw [sidinglaw16_ApplyDoes.j0]) ?_)
   exact Ev.pos rfl (Ev.now _)
  | false =>
   refine Ev.neg (by decide) (Ev.bd (hlong_ev l wl1 wl2) ?_)
   cases h2 : hlong l with
   | true =>
    refine Ev.step (fun k => by rw [sidinglaw16_ApplyDoes.j0]) ?_
    exact Ev.pos rfl (Ev.now _)
   | false =>
    obtain ⟨la, ta⟩ := longOf_tiny h1
    have tl := hlong_tiny h2
    have ll := (hlong_false h2).1
    have tl' : ∀ h ∈ l, h.f1.length ≤ 1000000000 ∧ h.f2.length ≤ 1000000000 := fun h hh => by obtain ⟨_, _, t3, t4⟩ := tl h hh; omega
    refine Ev.step (fun k => by rw [sidinglaw16_ApplyDoes.j0]) ?_
    refine Ev.neg (by decide) (Ev.bs (Ev.pos (by simp; omega) (Ev.bs ?_)))
    simp only [List.nil_append]
    obtain ⟨m1, m2⟩ := movedL_len a l reach
    obtain ⟨i1, i2⟩ := invL_tiny tl
    have e1 := exactL_len a l
    refine Ev.bd (twin_ev l (by omega) tl') (Ev.bd (exact_ev a l ta tl) (Ev.bd (rexact_ev a l ta tl) (Ev.bd (moved_ev a l reach ta tl (by omega)) (Ev.bd (rmoved_ev a l reach ta tl) (Ev.bd (invert_ev l) (Ev.bd (rinvert_ev l tl) (Ev.bd (same_ev _ _ (by omega)) ?_)))))))
    refine Ev.pos (by simp) (Ev.pos rfl (Ev.bd (same_ev _ _ (by omega)) (Ev.pos (by simp) (Ev.bd (ints_ev _ _ (by omega)) (Ev.pos (by simp) (Ev.pos rfl (Ev.bd (hsame_ev _ _ (by omega) i1) (Ev.pos (by simp) (Ev.pos rfl (Ev.bd (same_ev _ _ (by omega)) (Ev.pos (by simp) (Ev.bd (hsame_ev _ _ (by omega) tl') (Ev.rt (by simp))))))))))))))
 obtain ⟨k, hk⟩ := main.rounds
 exact ⟨k, hk⟩
end Go.Proofs.Ytnajpgimhoighaa.Pure
