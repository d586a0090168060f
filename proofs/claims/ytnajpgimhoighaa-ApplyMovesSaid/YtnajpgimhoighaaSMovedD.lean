/- What apply.Moved computes. -/
import Derived.Test.YtnajpgimhoighaaSApplyD
import Derived.Test.YtnajpgimhoighaaMoved
namespace Go.Proofs.Ytnajpgimhoighaa.Pr
open Go.RowKit Go.Proofs.YtnajpgimhoighaaW.PrintWords Go.Proofs.YtnajpgimhoighaaW.PrintLast Go.Proofs.YtnajpgimhoighaaW.PrintMore Go.Proofs.Ytnajpgimhoighaa.Near
set_option linter.unusedVariables false
set_option linter.unusedSimpArgs false


/-- Whether a hunk may stand at a place, near enough. -/
def okAt (a old : List ByteArray) (want e : Int) (R : Nat) (p : Int) : Prop := e ≤ p ∧ standsB a old p = true ∧ (p - want).natAbs ≤ R
/-- The first place that near finds. -/
def firstP (a old : List ByteArray) (want e : Int) : List Int → Option Int
 | [] => none
 | d :: ds => if e ≤ want + d ∧ standsB a old (want + d) = true then some (want + d) else firstP a old want e ds
/-- p is nearer than q, or as near and ahead of it. -/
def nearer (want p q : Int) : Prop := (p - want).natAbs < (q - want).natAbs ∨ ((p - want).natAbs = (q - want).natAbs ∧ p ≤ q)
/-- The best place. -/
def isBest (a old : List ByteArray) (want e : Int) (R : Nat) (o : Option Int) : Prop := match o with
 | none => ∀ p, ¬ okAt a old want e R p
 | some p => okAt a old want e R p ∧ ∀ q, okAt a old want e R q → nearer want p q
theorem isBest_uniq {a old : List ByteArray} {want e : Int} {R : Nat} {o o' : Option Int} (h : isBest a old want e R o) (h' : isBest a old want e R o') : o = o' := by
 cases o with
 | none => cases o' with
  | none => rfl
  | some p => exact absurd h'.1 (h p)
 | some p => cases o' with
  | none => exact absurd h.1 (h' p)
  | some q =>
   have h1 := h.2 q h'.1
   have h2 := h'.2 p h.1
   unfold nearer at h1 h2
   congr 1
   omega
theorem upto_abs {R : Nat} {x : Int} (h : x ∈ upto R) : x.natAbs ≤ R := by
 simp only [upto, List.mem_cons, List.mem_flatMap, List.mem_range] at h
 rcases h with rfl | ⟨i, hi, h⟩
 ·simp
 ·simp only [List.mem_cons, List.not_mem_nil, or_false] at h
  omega
theorem firstP_none {a old : List ByteArray} {want e : Int} : ∀ {ds : List Int}, firstP a old want e ds = none → ∀ d ∈ ds, ¬ (e ≤ want + d ∧ standsB a old (want + d) = true)
 | [], _, d, hd => by cases hd
 | x :: ds, h, d, hd => by
  unfold firstP at h
  split at h
  ·cases h
  ·rename_i hx
   rcases List.mem_cons.1 hd with rfl | hd
   ·exact hx
   ·exact firstP_none h d hd
theorem firstP_some {a old : List ByteArray} {want e p : Int} : ∀ {ds : List Int}, firstP a old want e ds = some p → ∃ pre d post, ds = pre ++ d :: post ∧ p = want + d ∧ e ≤ p ∧ standsB a old p = true ∧ ∀ x ∈ pre, ¬ (e ≤ want + x ∧ standsB a old (want + x) = true)
 | [], h => by cases h
 | x :: ds, h => by
  unfold firstP at h
  split at h
  ·rename_i hx
   injection h with h
   exact ⟨[], x, ds, rfl, h.symm, by rw [← h]; exact hx.1, by rw [← h]; exact hx.2, fun y hy => by cases hy⟩
  ·rename_i hx
   obtain ⟨pre, d, post, e1, e2, e3, e4, e5⟩ := firstP_some h
   refine ⟨x :: pre, d, post, by rw [e1]; rfl, e2, e3, e4, fun y hy => ?_⟩
   rcases List.mem_cons.1 hy with rfl | hy
   ·exact hx
   ·exact e5 y hy
/-- What comes ahead of a number is all that is nearer, or as near and less. -/
theorem upto_order {R : Nat} : ∀ {pre post : List Int} {d : Int}, upto R = pre ++ d :: post → ∀ x : Int, (x.natAbs < d.natAbs ∨ (x.natAbs = d.natAbs ∧ x < d)) → x ∈ pre := by
 induction R with
 | zero =>
  intro pre post d h x hx
  have : pre = [] ∧ d = 0 := by
   cases pre with
   | nil => simp [upto] at h; exact ⟨rfl, h.1.symm⟩
   | cons y pre => simp [upto] at h
  obtain ⟨rfl, rfl⟩ := this
  omega
 | succ R ih =>
  intro pre post d h x hx
  rw [upto_succ, List.append_assoc] at h
  rcases List.append_eq_append_iff.1 h with ⟨us, h1, h2⟩ | ⟨bs, h1, h2⟩
  ·-- pre = upto R ++ us
   subst h1
   cases us with
   | nil =>
    simp only [List.append_nil]
    simp at h2
    obtain ⟨rfl, _⟩ := h2
    exact mem_upto (by omega)
   | cons y us =>
    simp at h2
    obtain ⟨rfl, h2⟩ := h2
    cases us with
    | nil =>
     simp at h2
     obtain ⟨rfl, _⟩ := h2
     by_cases hxR : x.natAbs ≤ R
     ·exact List.mem_append_left _ (mem_upto hxR)
     ·refine List.mem_append_right _ ?_
      simp
      omega
    | cons z us => simp at h2
  ·-- upto R = pre ++ bs
   cases bs with
   | nil =>
    simp only [List.append_nil] at h1
    simp at h2
    obtain ⟨rfl, _⟩ := h2
    rw [← h1]
    exact mem_upto (by omega)
   | cons y bs =>
    simp at h2
    obtain ⟨rfl, h2⟩ := h2
    exact ih h1 x hx
theorem firstP_best (a old : List ByteArray) (want e : Int) (R : Nat) : isBest a old want e R (firstP a old want e (upto R)) := by
 cases h : firstP a old want e (upto R) with
 | none =>
  intro p hp
  obtain ⟨h1, h2, h3⟩ := hp
  have := firstP_none h (p - want) (mem_upto h3)
  rw [show want + (p - want) = p by omega] at this
  exact this ⟨h1, h2⟩
 | some p =>
  obtain ⟨pre, d, post, e1, e2, e3, e4, e5⟩ := firstP_some h
  have hd : d.natAbs ≤ R := upto_abs (by rw [e1]; simp)
  refine ⟨⟨e3, e4, by omega⟩, fun q hq => ?_⟩
  obtain ⟨q1, q2, q3⟩ := hq
  unfold nearer
  apply Classical.byContradiction
  intro hn
  have hx := upto_order e1 (q - want) (by omega)
  have := e5 _ hx
  rw [show want + (q - want) = q by omega] at this
  exact this ⟨q1, q2⟩
/-! ### Moved -/
/-- The places of hunks: none: one has no place. -/
def movedGo (a : List ByteArray) (R : Nat) : List S46 → Int → Int → Option (List Int)
 | [], _, _ => some []
 | h :: l, e, off => (firstP a h.f1 (h.f0 + off) e (upto R)).bind fun p => (movedGo a R l (p + (h.f1.length : Int)) (p - h.f0)).map (p :: ·)
/-- By how much hunks are moved. -/
def byL (l : List S46) (pl : List Int) : List Int := (l.zip pl).map fun x => x.2 - x.1.f0
def movedL (a : List ByteArray) (l : List S46) (reach : Int) : List ByteArray × List Int × Int :=
 if bothE a l = 0 then (if reach < 0 ∨ 20 < reach then ([], [], 2) else (match movedGo a reach.toNat l 0 0 with
  | none => ([], [], 6)
  | some pl => if linesErr (putL a 0 l pl) = 0 then (putL a 0 l pl, byL l pl, 0) else ([], [], linesErr (putL a 0 l pl)))) else ([], [], bothE a l)
theorem stands_bound {a old : List ByteArray} {p : Int} (h : standsB a old p = true) : 0 ≤ p ∧ p + (old.length : Int) ≤ (a.length : Int) := by
 simp only [standsB, Bool.and_eq_true, decide_eq_true_eq] at h
 exact h.1
theorem fit_val (a : List ByteArray) (h : S46) (e off : Int) (R : Nat) (hR : R ≤ 20) (ha : a.length ≤ 60) (hv : validH h = true) (ho : -100 ≤ off ∧ off ≤ 100) (d : Int) (hd : d ∈ upto R) :
  Ev (fun k => moved.fit k a h e off d) (decide (e ≤ h.f0 + off + d) && standsB a h.f1 (h.f0 + off + d)) := by
 obtain ⟨v1, v2, _, _, v3, v4, _⟩ := validH_true hv
 have h1 := upto_abs hd
 unfold moved.fit
 rw [w64 (x := h.f0 + off) (by omega), w64 (by omega)]
 by_cases c : e ≤ h.f0 + off + d
 ·refine Ev.pos c ?_
  rw [decide_eq_true c, Bool.true_and]
  exact at_ev a _ _ (by omega) (by omega) (by omega)
 ·refine Ev.neg c (Ev.rt ?_)
  rw [decide_eq_false c]
  rfl
theorem Ev.all {α β : Type} {g : Nat → α → Option β} {v : α → β} : ∀ {l : List α}, (∀ x ∈ l, Ev (fun k => g k x) (v x)) → ∃ K, ∀ k, K ≤ k → ∀ x ∈ l, g k x = some (v x)
 | [], _ => ⟨0, fun _ _ x hx => by cases hx⟩
 | x :: l, h => by
  obtain ⟨K1, h1⟩ := h x List.mem_cons_self
  obtain ⟨K2, h2⟩ := Ev.all (l := l) (fun y hy => h y (List.mem_cons_of_mem _ hy))
  refine ⟨max K1 K2, fun k hk y hy => ?_⟩
  rcases List.mem_cons.1 hy with rfl | hy
  ·exact h1 k (by omega)
  ·exact h2 k (by omega) y hy
theorem scan_val (k : Nat) (a : List ByteArray) (h : S46) (e off : Int) (hb : ∀ d, -20 ≤ d ∧ d ≤ 20 → wrap64 (wrap64 (h.f0 + off) + d) = h.f0 + off + d) : ∀ (ds : List Int), (∀ d ∈ ds, -20 ≤ d ∧ d ≤ 20) →
  (∀ d ∈ ds, moved.fit k a h e off d = some (decide (e ≤ h.f0 + off + d) && standsB a h.f1 (h.f0 + off + d))) → moved.scan k a h e off ds = firstP a h.f1 (h.f0 + off) e ds
 | [], _, _ => rfl
 | d :: ds, hd, hf => by
  unfold moved.scan firstP
  rw [hf d List.mem_cons_self, hb d (hd d List.mem_cons_self)]
  by_cases c : e ≤ h.f0 + off + d ∧ standsB a h.f1 (h.f0 + off + d) = true
  ·rw [if_pos c, if_pos (by rw [decide_eq_true c.1, c.2]; rfl)]
  ·rw [if_neg c, if_neg (by
    intro hh
    injection hh with hh
    rw [Bool.and_eq_true, decide_eq_true_eq] at hh
    exact c hh)]
   exact scan_val k a h e off hb ds (fun x hx => hd x (List.mem_cons_of_mem _ hx)) (fun x hx => hf x (List.mem_cons_of_mem _ hx))
theorem find_val (a : List ByteArray) (h : S46) (e off : Int) (R : Nat) (hR : R ≤ 20) (ha : a.length ≤ 60) (hv : validH h = true) (ho : -100 ≤ off ∧ off ≤ 100) :
  Ev (fun k => moved.find k a h e off (upto R)) (firstP a h.f1 (h.f0 + off) e (upto R)) := by
 obtain ⟨v1, v2, _, _, v3, v4, _⟩ := validH_true hv
 obtain ⟨K, hK⟩ := Ev.all (fun d hd => fit_val a h e off R hR ha hv ho d hd)
 refine ⟨K, fun k hk => ?_⟩
 have hf := hK k hk
 show moved.find k a h e off (upto R) = _
 unfold moved.find
 rw [if_pos (by rw [List.all_eq_true]; intro d hd; rw [hf d hd]; rfl)]
 rw [scan_val k a h e off (fun d hd => by rw [w64 (x := h.f0 + off) (by omega), w64 (by omega)]) (upto R) (fun d hd => by have := upto_abs hd; omega) hf]
theorem movedGo_bound {a old : List ByteArray} {want e p : Int} {ds : List Int} (h : firstP a old want e ds = some p) : e ≤ p ∧ 0 ≤ p ∧ p + (old.length : Int) ≤ (a.length : Int) := by
 obtain ⟨_, _, _, _, _, h3, h4, _⟩ := firstP_some h
 exact ⟨h3, stands_bound h4⟩
theorem go_val (a : List ByteArray) (R : Nat) (hR : R ≤ 20) (ha : a.length ≤ 60) : ∀ (l : List S46) (pl bl : List Int) (e off : Int), (∀ h ∈ l, validH h = true) → (-100 ≤ off ∧ off ≤ 100) →
  Ev (fun k => moved.go k a R l pl bl e off) ((movedGo a R l e off).map fun q => (pl ++ q, bl ++ byL l q))
 | [], pl, bl, e, off, _, _ => Ev.rt (by simp [movedGo, byL])
 | h :: l, pl, bl, e, off, hv, ho => by
  obtain ⟨v1, v2, _, _, v3, v4, _⟩ := validH_true (hv h List.mem_cons_self)
  unfold moved.go movedGo
  refine Ev.bd (find_val a h e off R hR ha (hv h List.mem_cons_self) ho) ?_
  cases hp : firstP a h.f1 (h.f0 + off) e (upto R) with
  | none => exact Ev.rt rfl
  | some p =>
   obtain ⟨b1, b2, b3⟩ := movedGo_bound hp
   dsimp only
   rw [w64 (x := p - h.f0) (by omega), w64 (by omega)]
   refine Ev.eq ?_ (go_val a R hR ha l (pl ++ [p]) (bl ++ [p - h.f0]) (p + (h.f1.length : Int)) (p - h.f0) (fun x hx => hv x (List.mem_cons_of_mem _ hx)) (by omega))
   simp only [Option.bind_some]
   cases movedGo a R l (p + (h.f1.length : Int)) (p - h.f0) <;> simp [byL]
theorem moved_ord (a : List ByteArray) (R : Nat) : ∀ (l : List S46) (e : Nat) (off : Int) (pl : List Int), e ≤ a.length → movedGo a R l (e : Int) off = some pl → inOrd a e l pl
 | [], e, off, pl, he, h => by
  obtain rfl : [] = pl := Option.some.inj h
  exact he
 | h :: l, e, off, pl, he, hg => by
  unfold movedGo at hg
  obtain ⟨p, hp, hg⟩ := Option.bind_eq_some_iff.1 hg
  obtain ⟨q, hq, rfl⟩ := Option.map_eq_some_iff.1 hg
  obtain ⟨b1, b2, b3⟩ := movedGo_bound hp
  have e1 : p + (h.f1.length : Int) = ((p.toNat + h.f1.length : Nat) : Int) := by omega
  rw [e1] at hq
  exact ⟨b1, b3, moved_ord a R l (p.toNat + h.f1.length) _ q (by omega) hq⟩
theorem moved_ev (a : List ByteArray) (l : List S46) (reach : Int) (ha : tiny a) (hl : ∀ h ∈ l, tinyH h) (hlen : l.length ≤ 1000000) : Ev (fun k => apply_Moved.f k a l reach) (movedL a l reach) := by
 unfold apply_Moved.f movedL
 refine Ev.pos (by omega) (Ev.bd (acheck_ev a l ha.small) ?_)
 by_cases h : bothE a l = 0
 ·obtain ⟨h1, h2⟩ := bothE_zero h
  have h3 := linesErr_len h1
  obtain ⟨c1, c2, c3⟩ := fits_conds h2
  have hval := chk_valid (checkL_zero h2).2
  rw [if_pos h]
  refine Ev.pos h ?_
  by_cases hr : reach < 0 ∨ 20 < reach
  ·rw [if_pos hr]
   exact Ev.pos hr (Ev.now _)
  ·rw [if_neg hr]
   refine Ev.neg hr (Ev.bd (go_val a reach.toNat (by omega) h3 l [] [] 0 0 hval (by omega)) ?_)
   cases hg : movedGo a reach.toNat l 0 0 with
   | none => exact Ev.rt rfl
   | some pl =>
    have hord := moved_ord a reach.toNat l 0 0 pl (Nat.zero_le _) hg
    show Ev (fun k => moved.fin k a l (some ([] ++ pl, [] ++ byL l pl))) _
    simp only [List.nil_append]
    unfold moved.fin
    dsimp only
    refine Ev.bd (put_ev a l pl (by omega) ha (by omega) (fun x hx => ⟨c2 x hx, (hl x hx).2.1⟩) hord) ?_
    unfold finL
    by_cases h4 : linesErr (putL a 0 l pl) = 0
    ·rw [if_pos h4, if_pos h4]
     exact Ev.pos rfl (Ev.now _)
    ·simp only [if_neg h4]
     exact Ev.now _
 ·rw [if_neg h]
  exact Ev.neg h (Ev.now _)
end Go.Proofs.Ytnajpgimhoighaa.Pr
