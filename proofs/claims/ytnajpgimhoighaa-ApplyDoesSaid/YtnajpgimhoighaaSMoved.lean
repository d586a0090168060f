/- What apply.Moved and the reference's Moved compute: the same. -/
import Derived.Test.YtnajpgimhoighaaSApply
import Derived.Test.YtnajpgimhoighaaMoved
import Derived.Test.YtnajpgimhoighaaF14
import Derived.Test.YtnajpgimhoighaaF18
namespace Go.Proofs.Ytnajpgimhoighaa.Pr
open Go.RowKit Go.Proofs.YtnajpgimhoighaaW.PrintWords Go.Proofs.YtnajpgimhoighaaW.PrintLast Go.Proofs.YtnajpgimhoighaaW.PrintMore Go.Proofs.Ytnajpgimhoighaa.Near
set_option linter.unusedVariables false
set_option linter.unusedSimpArgs false

def okAt (a old : List ByteArray) (want e : Int) (R : Nat) (p : Int) : Prop := e ≤ p ∧ standsB a old p = true ∧ (p - want).natAbs ≤ R
def firstP (a old : List ByteArray) (want e : Int) : List Int → Option Int
 | [] => none
 | d :: ds => if e ≤ want + d ∧ standsB a old (want + d) = true then some (want + d) else firstP a old want e ds
def nearer (want p q : Int) : Prop := (p - want).natAbs < (q - want).natAbs ∨ ((p - want).natAbs = (q - want).natAbs ∧ p ≤ q)
def isBest (a old : List ByteArray) (want e : Int) (R : Nat) (o : Option Int) : Prop := match o with
 | none => ∀ p, ¬ okAt a old want e R p
 | some p => okAt a old want e R p ∧ ∀ q, okAt a old want e R q → nearer want p q
theorem isBest_uniq {a old : List ByteArray} {want e : Int} {R : Nat} {o o' : Option Int} (h : isBest a old want e R o) (h' : isBest a old want e R o') : o = o' := by
 cases o with
 | none => cases o' with
  | none => rfl
  | some p => exact absurd h'.1 (h p)
 | some p => cases o' with
  | none => exact absurd h.1 (h' p)
  | some q =>
   have h1 := h.2 q h'.1
   have h2 := h'.2 p h.1
   unfold nearer at h1 h2
   congr 1
   omega
theorem upto_abs {R : Nat} {x : Int} (h : x ∈ upto R) : x.natAbs ≤ R := by
 simp only [upto, List.mem_cons, List.mem_flatMap, List.mem_range] at h
 rcases h with rfl | ⟨i, hi, h⟩
 ·simp
 ·simp only [List.mem_cons, List.not_mem_nil, or_false] at h
  omega
theorem firstP_none {a old : List ByteArray} {want e : Int} : ∀ {ds : List Int}, firstP a old want e ds = none → ∀ d ∈ ds, ¬ (e ≤ want + d ∧ standsB a old (want + d) = true)
 | [], _, d, hd => by cases hd
 | x :: ds, h, d, hd => by
  unfold firstP at h
  split at h
  ·cases h
  ·rename_i hx
   rcases List.mem_cons.1 hd with rfl | hd
   ·exact hx
   ·exact firstP_none h d hd
theorem firstP_some {a old : List ByteArray} {want e p : Int} : ∀ {ds : List Int}, firstP a old want e ds = some p → ∃ pre d post, ds = pre ++ d :: post ∧ p = want + d ∧ e ≤ p ∧ standsB a old p = true ∧ ∀ x ∈ pre, ¬ (e ≤ want + x ∧ standsB a old (want + x) = true)
 | [], h => by cases h
 | x :: ds, h => by
  unfold firstP at h
  split at h
  ·rename_i hx
   injection h with h
   exact ⟨[], x, ds, rfl, h.symm, by rw [← h]; exact hx.1, by rw [← h]; exact hx.2, fun y hy => by cases hy⟩
  ·rename_i hx
   obtain ⟨pre, d, post, e1, e2, e3, e4, e5⟩ := firstP_some h
   refine ⟨x :: pre, d, post, by rw [e1]; rfl, e2, e3, e4, fun y hy => ?_⟩
   rcases List.mem_cons.1 hy with rfl | hy
   ·exact hx
   ·exact e5 y hy
theorem upto_order {R : Nat} : ∀ {pre post : List Int} {d : Int}, upto R = pre ++ d :: post → ∀ x : Int, (x.natAbs < d.natAbs ∨ (x.natAbs = d.natAbs ∧ x < d)) → x ∈ pre := by
 induction R with
 | zero =>
  intro pre post d h x hx
  have : pre = [] ∧ d = 0 := by
   cases pre with
   | nil => simp [upto] at h; exact ⟨rfl, h.1.symm⟩
   | cons y pre => simp [upto] at h
  obtain ⟨rfl, rfl⟩ := this
  omega
 | succ R ih =>
  intro pre post d h x hx
  rw [upto_succ, List.append_assoc] at h
  rcases List.append_eq_append_iff.1 h with ⟨us, h1, h2⟩ | ⟨bs, h1, h2⟩
  ·-- pre = upto R ++ us
   subst h1
   cases us with
   | nil =>
    simp only [List.append_nil]
    simp at h2
    obtain ⟨rfl, _⟩ := h2
    exact mem_upto (by omega)
   | cons y us =>
    simp at h2
    obtain ⟨rfl, h2⟩ := h2
    cases us with
    | nil =>
     simp at h2
     obtain ⟨rfl, _⟩ := h2
     by_cases hxR : x.natAbs ≤ R
     ·exact List.mem_append_left _ (mem_upto hxR)
     ·refine List.mem_append_right _ ?_
      simp
      omega
    | cons z us => simp at h2
  ·-- upto R = pre ++ bs
   cases bs with
   | nil =>
    simp only [List.append_nil] at h1
    simp at h2
    obtain ⟨rfl, _⟩ := h2
    rw [← h1]
    exact mem_upto (by omega)
   | cons y bs =>
    simp at h2
    obtain ⟨rfl, h2⟩ := h2
    exact ih h1 x hx
theorem firstP_best (a old : List ByteArray) (want e : Int) (R : Nat) : isBest a old want e R (firstP a old want e (upto R)) := by
 cases h : firstP a old want e (upto R) with
 | none =>
  intro p hp
  obtain ⟨h1, h2, h3⟩ := hp
  have := firstP_none h (p - want) (mem_upto h3)
  rw [show want + (p - want) = p by omega] at this
  exact this ⟨h1, h2⟩
 | some p =>
  obtain ⟨pre, d, post, e1, e2, e3, e4, e5⟩ := firstP_some h
  have hd : d.natAbs ≤ R := upto_abs (by rw [e1]; simp)
  refine ⟨⟨e3, e4, by omega⟩, fun q hq => ?_⟩
  obtain ⟨q1, q2, q3⟩ := hq
  unfold nearer
  apply Classical.byContradiction
  intro hn
  have hx := upto_order e1 (q - want) (by omega)
  have := e5 _ hx
  rw [show want + (q - want) = q by omega] at this
  exact this ⟨q1, q2⟩
def movedGo (a : List ByteArray) (R : Nat) : List S46 → Int → Int → Option (List Int)
 | [], _, _ => some []
 | h :: l, e, off => (firstP a h.f1 (h.f0 + off) e (upto R)).bind fun p => (movedGo a R l (p + (h.f1.length : Int)) (p - h.f0)).map (p :: ·)
def byL (l : List S46) (pl : List Int) : List Int := (l.zip pl).map fun x => x.2 - x.1.f0
def movedL (a : List ByteArray) (l : List S46) (reach : Int) : List ByteArray × List Int × Int :=
 if bothE a l = 0 then (if reach < 0 ∨ 20 < reach then ([], [], 2) else (match movedGo a reach.toNat l 0 0 with
  | none => ([], [], 6)
  | some pl => if linesErr (putL a 0 l pl) = 0 then (putL a 0 l pl, byL l pl, 0) else ([], [], linesErr (putL a 0 l pl)))) else ([], [], bothE a l)
theorem stands_bound {a old : List ByteArray} {p : Int} (h : standsB a old p = true) : 0 ≤ p ∧ p + (old.length : Int) ≤ (a.length : Int) := by
 simp only [standsB, Bool.and_eq_true, decide_eq_true_eq] at h
 exact h.1
theorem fit_val (a : List ByteArray) (h : S46) (e off : Int) (R : Nat) (hR : R ≤ 20) (ha : a.length ≤ 60) (hv : validH h = true) (ho : -100 ≤ off ∧ off ≤ 100) (d : Int) (hd : d ∈ upto R) :
  Ev (fun k => moved.fit k a h e off d) (decide (e ≤ h.f0 + off + d) && standsB a h.f1 (h.f0 + off + d)) := by
 obtain ⟨v1, v2, _, _, v3, v4, _⟩ := validH_true hv
 have h1 := upto_abs hd
 unfold moved.fit
 rw [w64 (x := h.f0 + off) (by omega), w64 (by omega)]
 by_cases c : e ≤ h.f0 + off + d
 ·refine Ev.pos c ?_
  rw [decide_eq_true c, Bool.true_and]
  exact at_ev a _ _ (by omega) (by omega) (by omega)
 ·refine Ev.neg c (Ev.rt ?_)
  rw [decide_eq_false c]
  rfl
theorem Ev.all {α β : Type} {g : Nat → α → Option β} {v : α → β} : ∀ {l : List α}, (∀ x ∈ l, Ev (fun k => g k x) (v x)) → ∃ K, ∀ k, K ≤ k → ∀ x ∈ l, g k x = some (v x)
 | [], _ => ⟨0, fun _ _ x hx => by cases hx⟩
 | x :: l, h => by
  obtain ⟨K1, h1⟩ := h x List.mem_cons_self
  obtain ⟨K2, h2⟩ := Ev.all (l := l) (fun y hy => h y (List.mem_cons_of_mem _ hy))
  refine ⟨max K1 K2, fun k hk y hy => ?_⟩
  rcases List.mem_cons.1 hy with rfl | hy
  ·exact h1 k (by omega)
  ·exact h2 k (by omega) y hy
theorem scan_val (k : Nat) (a : List ByteArray) (h : S46) (e off : Int) (hb : ∀ d, -20 ≤ d ∧ d ≤ 20 → wrap64 (wrap64 (h.f0 + off) + d) = h.f0 + off + d) : ∀ (ds : List Int), (∀ d ∈ ds, -20 ≤ d ∧ d ≤ 20) →
  (∀ d ∈ ds, moved.fit k a h e off d = some (decide (e ≤ h.f0 + off + d) && standsB a h.f1 (h.f0 + off + d))) → moved.scan k a h e off ds = firstP a h.f1 (h.f0 + off) e ds
 | [], _, _ => rfl
 | d :: ds, hd, hf => by
  unfold moved.scan firstP
  rw [hf d List.mem_cons_self, hb d (hd d List.mem_cons_self)]
  by_cases c : e ≤ h.f0 + off + d ∧ standsB a h.f1 (h.f0 + off + d) = true
  ·rw [if_pos c, if_pos (by rw [decide_eq_true c.1, c.2]; rfl)]
  ·rw [if_neg c, if_neg (by
    intro hh
    injection hh with hh
    rw [Bool.and_eq_true, decide_eq_true_eq] at hh
    exact c hh)]
   exact scan_val k a h e off hb ds (fun x hx => hd x (List.mem_cons_of_mem _ hx)) (fun x hx => hf x (List.mem_cons_of_mem _ hx))
theorem find_val (a : List ByteArray) (h : S46) (e off : Int) (R : Nat) (hR : R ≤ 20) (ha : a.length ≤ 60) (hv : validH h = true) (ho : -100 ≤ off ∧ off ≤ 100) :
  Ev (fun k => moved.find k a h e off (upto R)) (firstP a h.f1 (h.f0 + off) e (upto R)) := by
 obtain ⟨v1, v2, _, _, v3, v4, _⟩ := validH_true hv
 obtain ⟨K, hK⟩ := Ev.all (fun d hd => fit_val a h e off R hR ha hv ho d hd)
 refine ⟨K, fun k hk => ?_⟩
 have hf := hK k hk
 show moved.find k a h e off (upto R) = _
 unfold moved.find
 rw [if_pos (by rw [List.all_eq_true]; intro d hd; rw [hf d hd]; rfl)]
 rw [scan_val k a h e off (fun d hd => by rw [w64 (x := h.f0 + off) (by omega), w64 (by omega)]) (upto R) (fun d hd => by have := upto_abs hd; omega) hf]
theorem movedGo_bound {a old : List ByteArray} {want e p : Int} {ds : List Int} (h : firstP a old want e ds = some p) : e ≤ p ∧ 0 ≤ p ∧ p + (old.length : Int) ≤ (a.length : Int) := by
 obtain ⟨_, _, _, _, _, h3, h4, _⟩ := firstP_some h
 exact ⟨h3, stands_bound h4⟩
theorem go_val (a : List ByteArray) (R : Nat) (hR : R ≤ 20) (ha : a.length ≤ 60) : ∀ (l : List S46) (pl bl : List Int) (e off : Int), (∀ h ∈ l, validH h = true) → (-100 ≤ off ∧ off ≤ 100) →
  Ev (fun k => moved.go k a R l pl bl e off) ((movedGo a R l e off).map fun q => (pl ++ q, bl ++ byL l q))
 | [], pl, bl, e, off, _, _ => Ev.rt (by simp [movedGo, byL])
 | h :: l, pl, bl, e, off, hv, ho => by
  obtain ⟨v1, v2, _, _, v3, v4, _⟩ := validH_true (hv h List.mem_cons_self)
  unfold moved.go movedGo
  refine Ev.bd (find_val a h e off R hR ha (hv h List.mem_cons_self) ho) ?_
  cases hp : firstP a h.f1 (h.f0 + off) e (upto R) with
  | none => exact Ev.rt rfl
  | some p =>
   obtain ⟨b1, b2, b3⟩ := movedGo_bound hp
   dsimp only
   rw [w64 (x := p - h.f0) (by omega), w64 (by omega)]
   refine Ev.eq ?_ (go_val a R hR ha l (pl ++ [p]) (bl ++ [p - h.f0]) (p + (h.f1.length : Int)) (p - h.f0) (fun x hx => hv x (List.mem_cons_of_mem _ hx)) (by omega))
   simp only [Option.bind_some]
   cases movedGo a R l (p + (h.f1.length : Int)) (p - h.f0) <;> simp [byL]
theorem moved_ord (a : List ByteArray) (R : Nat) : ∀ (l : List S46) (e : Nat) (off : Int) (pl : List Int), e ≤ a.length → movedGo a R l (e : Int) off = some pl → inOrd a e l pl
 | [], e, off, pl, he, h => by
  obtain rfl : [] = pl := Option.some.inj h
  exact he
 | h :: l, e, off, pl, he, hg => by
  unfold movedGo at hg
  obtain ⟨p, hp, hg⟩ := Option.bind_eq_some_iff.1 hg
  obtain ⟨q, hq, rfl⟩ := Option.map_eq_some_iff.1 hg
  obtain ⟨b1, b2, b3⟩ := movedGo_bound hp
  have e1 : p + (h.f1.length : Int) = ((p.toNat + h.f1.length : Nat) : Int) := by omega
  rw [e1] at hq
  exact ⟨b1, b3, moved_ord a R l (p.toNat + h.f1.length) _ q (by omega) hq⟩
theorem moved_ev (a : List ByteArray) (l : List S46) (reach : Int) (ha : tiny a) (hl : ∀ h ∈ l, tinyH h) (hlen : l.length ≤ 1000000) : Ev (fun k => apply_Moved.f k a l reach) (movedL a l reach) := by
 unfold apply_Moved.f movedL
 refine Ev.pos (by omega) (Ev.bd (acheck_ev a l ha.small) ?_)
 by_cases h : bothE a l = 0
 ·obtain ⟨h1, h2⟩ := bothE_zero h
  have h3 := linesErr_len h1
  obtain ⟨c1, c2, c3⟩ := fits_conds h2
  have hval := chk_valid (checkL_zero h2).2
  rw [if_pos h]
  refine Ev.pos h ?_
  by_cases hr : reach < 0 ∨ 20 < reach
  ·rw [if_pos hr]
   exact Ev.pos hr (Ev.now _)
  ·rw [if_neg hr]
   refine Ev.neg hr (Ev.bd (go_val a reach.toNat (by omega) h3 l [] [] 0 0 hval (by omega)) ?_)
   cases hg : movedGo a reach.toNat l 0 0 with
   | none => exact Ev.rt rfl
   | some pl =>
    have hord := moved_ord a reach.toNat l 0 0 pl (Nat.zero_le _) hg
    show Ev (fun k => moved.fin k a l (some ([] ++ pl, [] ++ byL l pl))) _
    simp only [List.nil_append]
    unfold moved.fin
    dsimp only
    refine Ev.bd (put_ev a l pl (by omega) ha (by omega) (fun x hx => ⟨c2 x hx, (hl x hx).2.1⟩) hord) ?_
    unfold finL
    by_cases h4 : linesErr (putL a 0 l pl) = 0
    ·rw [if_pos h4, if_pos h4]
     exact Ev.pos rfl (Ev.now _)
    ·simp only [if_neg h4]
     exact Ev.now _
 ·rw [if_neg h]
  exact Ev.neg h (Ev.now _)
theorem sq_abs (x : Int) : x * x = ((x.natAbs * x.natAbs : Nat) : Int) := by
 rw [Int.natCast_mul, Int.natAbs_mul_self']
theorem sq_lt {x y : Int} : x * x < y * y ↔ x.natAbs < y.natAbs := by
 rw [sq_abs x, sq_abs y, Int.ofNat_lt]
 exact Nat.mul_self_lt_mul_self_iff
theorem sq_bound {x : Int} (h : x.natAbs ≤ 1000) : 0 ≤ x * x ∧ x * x ≤ 1000000 := by
 rw [sq_abs x]
 have h' := Nat.mul_le_mul h h
 omega
def encP : Option Int → Int
 | none => -1
 | some p => p
theorem rstands_ev (a : List ByteArray) (h : S46) (p : Int) (ha : a.length ≤ 1000000) (hh : h.f1.length ≤ 1000000) (hp : p ≤ 1000000) : Ev (fun k => sidingref16_stands.f k a h.f0 h.f1 h.f2 p) (standsB a h.f1 p) := by
 unfold sidingref16_stands.f standsB
 by_cases h1 : 0 ≤ p
 ·refine Ev.neg (by omega) ?_
  rw [w64 (by omega), decide_eq_true h1, Bool.true_and]
  by_cases h2 : p + (h.f1.length : Int) ≤ (a.length : Int)
  ·refine Ev.neg (by omega) (Ev.pos h1 (Ev.pos (by omega) (Ev.pos h2 (Ev.bd (same_ev _ _ (by rw [List.length_drop, List.length_take]; omega)) (Ev.rt ?_)))))
   rw [decide_eq_true h2, Bool.true_and]
  ·refine Ev.pos (by omega) (Ev.rt ?_)
   rw [decide_eq_false h2]
   rfl
 ·refine Ev.pos (by omega) (Ev.rt ?_)
  rw [decide_eq_false h1]
  rfl
def bestTo (a old : List ByteArray) (want e : Int) (R : Nat) (p best : Int) : Prop :=
 (best = -1 ∧ ∀ q, q < p → ¬ okAt a old want e R q) ∨ (0 ≤ best ∧ best < p ∧ okAt a old want e R best ∧ ∀ q, q < p → okAt a old want e R q → nearer want best q)
theorem place_loop (a : List ByteArray) (h : S46) (want : Int) (e : Nat) (R : Nat) (ha : a.length ≤ 60) (hh : h.f1.length ≤ 60) (hw : want.natAbs ≤ 300) (hR : R ≤ 20) : ∀ (d p : Nat) (best : Int), p + d = a.length + 1 → e ≤ p → bestTo a h.f1 want e R p best →
  Ev (fun k => sidingref16_place.l0 k a (R : Int) want best (p : Int) h.f0 h.f1 h.f2) (encP (firstP a h.f1 want e (upto R))) := by
 intro d
 induction d with
 | zero =>
  intro p best hp he hb
  refine Ev.step (fun k => by rw [sidingref16_place.l0]) ?_
  refine Ev.neg (by omega) (Ev.rt ?_)
  have hall : ∀ q, okAt a h.f1 want e R q → q < (p : Int) := fun q hq => by have := (stands_bound hq.2.1); omega
  rcases hb with ⟨rfl, hb⟩ | ⟨h0, h1, h2, h3⟩
  ·have : isBest a h.f1 want e R none := fun q hq => hb q (hall q hq) hq
   rw [isBest_uniq (firstP_best a h.f1 want e R) this]
   rfl
  ·have : isBest a h.f1 want e R (some best) := ⟨h2, fun q hq => h3 q (hall q hq) hq⟩
   rw [isBest_uniq (firstP_best a h.f1 want e R) this]
   rfl
 | succ d ih =>
  intro p best hp he hb
  refine Ev.step (fun k => by rw [sidingref16_place.l0]) ?_
  refine Ev.pos (by omega) (Ev.bd (rstands_ev a h p (by omega) (by omega) (by omega)) ?_)
  have ep : ((p : Int) + 1) = ((p + 1 : Nat) : Int) := by omega
  have skip : (¬ okAt a h.f1 want e R p) → Ev (fun k => sidingref16_place.j1 k a (R : Int) want best (p : Int) true h.f0 h.f1 h.f2) (encP (firstP a h.f1 want e (upto R))) := by
   intro hno
   refine Ev.step (fun k => by rw [sidingref16_place.j1]) (Ev.pos rfl ?_)
   rw [w64 (by omega), ep]
   refine ih (p + 1) best (by omega) (by omega) ?_
   rcases hb with ⟨rfl, hb⟩ | ⟨h0, h1, h2, h3⟩
   ·refine .inl ⟨rfl, fun q hq hok => ?_⟩
    by_cases eq : q = p
    ·rw [eq] at hok; exact hno hok
    ·exact hb q (by omega) hok
   ·refine .inr ⟨h0, by omega, h2, fun q hq hok => ?_⟩
    by_cases eq : q = p
    ·rw [eq] at hok; exact absurd hok hno
    ·exact h3 q (by omega) hok
  cases hs : standsB a h.f1 (p : Int) with
  | false => exact Ev.neg (by decide) (skip (fun hok => by have hok1 := hok.2.1; rw [hs] at hok1; cases hok1))
  | true =>
   refine Ev.pos rfl ?_
   rw [w64 (x := want - (R : Int)) (by omega), w64 (x := want + (R : Int)) (by omega)]
   by_cases c1 : (p : Int) < want - (R : Int)
   ·exact Ev.pos c1 (skip (fun hok => by have := hok.2.2; omega))
   ·refine Ev.neg c1 ?_
    by_cases c2 : (p : Int) > want + (R : Int)
    ·rw [decide_eq_true c2]
     exact skip (fun hok => by have := hok.2.2; omega)
    ·rw [decide_eq_false c2]
     have hok : okAt a h.f1 want e R p := ⟨by omega, hs, by omega⟩
     have take : (∀ q, q < (p : Int) → okAt a h.f1 want e R q → nearer want p q) → Ev (fun k => sidingref16_place.l0 k a (R : Int) want (p : Int) (wrap64 ((p : Int) + 1)) h.f0 h.f1 h.f2) (encP (firstP a h.f1 want e (upto R))) := by
      intro hall
      rw [w64 (by omega), ep]
      refine ih (p + 1) p (by omega) (by omega) (.inr ⟨by omega, by omega, hok, fun q hq hq' => ?_⟩)
      by_cases eq : q = p
      ·rw [eq]; exact .inr ⟨rfl, by omega⟩
      ·exact hall q (by omega) hq'
     refine Ev.step (fun k => by rw [sidingref16_place.j1]) (Ev.neg (by decide) ?_)
     rcases hb with ⟨rfl, hb⟩ | ⟨h0, h1, h2, h3⟩
     ·exact Ev.pos (by omega) (take (fun q hq hq' => absurd hq' (hb q hq)))
     ·refine Ev.neg (by omega) ?_
      have b1 := sq_bound (x := (p : Int) - want) (by omega)
      have b2 := sq_bound (x := best - want) (by omega)
      rw [w64 (x := (p : Int) - want) (by omega), w64 (x := best - want) (by omega), w64 (x := ((p : Int) - want) * ((p : Int) - want)) (by omega), w64 (x := (best - want) * (best - want)) (by omega)]
      by_cases c3 : ((p : Int) - want) * ((p : Int) - want) < (best - want) * (best - want)
      ·refine Ev.pos c3 (take (fun q hq hq' => ?_))
       have := sq_lt.1 c3
       have h4 := h3 q hq hq'
       unfold nearer at h4 ⊢
       omega
      ·refine Ev.neg c3 ?_
       have c4 : ¬ ((p : Int) - want).natAbs < (best - want).natAbs := fun hh => c3 (sq_lt.2 hh)
       rw [w64 (by omega), ep]
       refine ih (p + 1) best (by omega) (by omega) (.inr ⟨h0, by omega, h2, fun q hq hq' => ?_⟩)
       by_cases eq : q = p
       ·rw [eq]
        unfold nearer
        omega
       ·exact h3 q (by omega) hq'
theorem place_ev (a : List ByteArray) (h : S46) (off : Int) (e : Nat) (R : Nat) (ha : a.length ≤ 60) (hh : h.f1.length ≤ 60) (h0 : 0 ≤ h.f0 ∧ h.f0 ≤ 60) (ho : -100 ≤ off ∧ off ≤ 100) (hR : R ≤ 20) (he : e ≤ a.length) :
  Ev (fun k => sidingref16_place.f k a h.f0 h.f1 h.f2 off (e : Int) (R : Int)) (encP (firstP a h.f1 (h.f0 + off) e (upto R))) := by
 unfold sidingref16_place.f
 rw [w64 (by omega)]
 exact place_loop a h (h.f0 + off) e R ha hh (by omega) hR (a.length + 1 - e) e (-1) (by omega) (Nat.le_refl _) (.inl ⟨rfl, fun q hq hok => by have := hok.1; omega⟩)

def movedFin (a : List ByteArray) (R : Nat) (out : List ByteArray) (bl : List Int) (e : Nat) (off : Int) (l : List S46) : List ByteArray × List Int × Int := match movedGo a R l e off with
 | none => ([], [], 6)
 | some q => if linesErr (out ++ putL a e l q) = 0 then (out ++ putL a e l q, bl ++ byL l q, 0) else ([], [], linesErr (out ++ putL a e l q))
theorem rm3_loop (a : List ByteArray) (ha : tiny a) (hla : a.length ≤ 60) (bl : List Int) : ∀ (d i : Nat) (out : List ByteArray), i + d = a.length → tiny out → out.length ≤ 100000 + i →
  Ev (fun k => sidingref16_Moved.l3 k a out bl (i : Int)) (if linesErr (out ++ a.drop i) = 0 then (out ++ a.drop i, bl, 0) else ([], [], linesErr (out ++ a.drop i))) := by
 intro d
 induction d with
 | zero =>
  intro i out hi ho hl
  obtain rfl : i = a.length := by omega
  refine Ev.step (fun k => by rw [sidingref16_Moved.l3]) ?_
  rw [List.drop_length, List.append_nil]
  refine Ev.neg (by omega) (Ev.bd (rlines_ev out ho) ?_)
  by_cases h : linesErr out = 0
  ·rw [if_pos h]
   exact Ev.pos h (Ev.now _)
  ·rw [if_neg h]
   exact Ev.neg h (Ev.bd (rlines_ev out ho) (Ev.now _))
 | succ d ih =>
  intro i out hi ho hl
  have h : i < a.length := by omega
  refine Ev.step (fun k => by rw [sidingref16_Moved.l3]) ?_
  refine Ev.pos (by omega) (Ev.pos (by omega) (Ev.pos (by omega) ?_))
  rw [rdOf_at _ _ _ h, w64 (by omega), drop_at a i h]
  have := ih (i + 1) (out ++ [a[i]]) (by omega) (ho.append (fun s hs => by rw [List.mem_singleton.1 hs]; exact ha _ (List.getElem_mem h))) (by rw [List.length_append, List.length_singleton]; omega)
  simpa using this
theorem rm2_loop (a : List ByteArray) (l : List S46) (x2 : Int) (bl : List Int) (i : Nat) (p : Int) (h : i < l.length) (ht : l[i].f2.length ≤ 60) (hbl : bl.length ≤ 1000) (r : List ByteArray × List Int × Int) (out0 : List ByteArray) (ho : out0.length ≤ 99000)
  (hr : Ev (fun k => sidingref16_Moved.l0 k a l x2 (out0 ++ l[i].f2) (bl ++ [wrap64 (p - l[i].f0)]) (wrap64 (p - l[i].f0)) (wrap64 (p + (l[i].f1.length : Int))) (wrap64 ((i : Int) + 1))) r) : ∀ (d j : Nat), j + d = l[i].f2.length →
  Ev (fun k => sidingref16_Moved.l2 k a l x2 (out0 ++ l[i].f2.take j) bl (i : Int) p (j : Int)) r := by
 intro d
 induction d with
 | zero =>
  intro j hj
  refine Ev.step (fun k => by rw [sidingref16_Moved.l2]) ?_
  refine Ev.pos (by omega) (Ev.pos (by omega) ?_)
  rw [rd_h _ _ h, List.take_of_length_le (by omega)]
  exact Ev.neg (by omega) (Ev.pos (by omega) hr)
 | succ d ih =>
  intro j hj
  have hjl : j < l[i].f2.length := by omega
  refine Ev.step (fun k => by rw [sidingref16_Moved.l2]) ?_
  refine Ev.pos (by omega) (Ev.pos (by omega) ?_)
  rw [rd_h _ _ h]
  refine Ev.pos (by omega) (Ev.pos (by omega) (Ev.pos (by rw [List.length_append, List.length_take]; omega) ?_))
  rw [rdOf_at _ _ _ hjl, w64 (x := (j : Int) + 1) (by omega), List.append_assoc, ← take_succ_at _ _ hjl]
  exact ih (j + 1) (by omega)
theorem rm1_loop (a : List ByteArray) (l : List S46) (x2 : Int) (bl : List Int) (i : Nat) (p : Nat) (hp : p ≤ a.length) (hla : a.length ≤ 60) (r : List ByteArray × List Int × Int)
  (out0 : List ByteArray) (ho : out0.length ≤ 98000) (e : Nat) (hr : Ev (fun k => sidingref16_Moved.l2 k a l x2 (out0 ++ (a.take p).drop e) bl (i : Int) (p : Int) 0) r) : ∀ (d j : Nat), j + d = p → e ≤ j →
  Ev (fun k => sidingref16_Moved.l1 k a l x2 (out0 ++ (a.take j).drop e) bl (i : Int) (p : Int) (j : Int)) r := by
 intro d
 induction d with
 | zero =>
  intro j hj he
  obtain rfl : j = p := by omega
  refine Ev.step (fun k => by rw [sidingref16_Moved.l1]) ?_
  exact Ev.neg (by omega) hr
 | succ d ih =>
  intro j hj he
  have hja : j < a.length := by omega
  refine Ev.step (fun k => by rw [sidingref16_Moved.l1]) ?_
  refine Ev.pos (by omega) (Ev.pos (by omega) (Ev.pos (by omega) (Ev.pos (by rw [List.length_append, List.length_drop, List.length_take]; omega) ?_)))
  rw [rdOf_at _ _ _ hja, w64 (x := (j : Int) + 1) (by omega)]
  have e1 : (a.take (j + 1)).drop e = (a.take j).drop e ++ [a[j]] := by
   rw [take_succ_at a j hja, List.drop_append_of_le_length (by rw [List.length_take]; omega)]
  have := ih (j + 1) (by omega) (by omega)
  rw [e1, ← List.append_assoc] at this
  exact this
theorem rm0_loop (a : List ByteArray) (l : List S46) (R : Nat) (hR : R ≤ 20) (ha : tiny a) (hla : a.length ≤ 60) (hll : l.length ≤ 40) (hv : ∀ h ∈ l, validH h = true) (ht : ∀ h ∈ l, tiny h.f2) : ∀ (d i e : Nat) (off : Int) (out : List ByteArray) (bl : List Int), i + d = l.length → e ≤ a.length → (-100 ≤ off ∧ off ≤ 100) → tiny out → out.length ≤ 200 * i → bl.length = i →
  Ev (fun k => sidingref16_Moved.l0 k a l (R : Int) out bl off (e : Int) (i : Int)) (movedFin a R out bl e off (l.drop i)) := by
 intro d
 induction d with
 | zero =>
  intro i e off out bl hi he ho hto hol hbl
  obtain rfl : i = l.length := by omega
  refine Ev.step (fun k => by rw [sidingref16_Moved.l0]) ?_
  refine Ev.neg (by omega) ?_
  rw [List.drop_length]
  have := rm3_loop a ha hla bl (a.length - e) e out (by omega) hto (by omega)
  simpa [movedFin, movedGo, byL, putL] using this
 | succ d ih =>
  intro i e off out bl hi he ho hto hol hbl
  have h : i < l.length := by omega
  obtain ⟨v1, v2, _, _, v3, v4, _⟩ := validH_true (hv _ (List.getElem_mem h))
  refine Ev.step (fun k => by rw [sidingref16_Moved.l0]) ?_
  refine Ev.pos (by omega) (Ev.pos (by omega) ?_)
  rw [rd_h _ _ h, drop_at l i h]
  refine Ev.bd (place_ev a l[i] off e R hla v3 ⟨v1, v2⟩ ho hR he) ?_
  unfold movedFin movedGo
  cases hp : firstP a l[i].f1 (l[i].f0 + off) e (upto R) with
  | none => exact Ev.pos (by decide) (Ev.rt rfl)
  | some p =>
   obtain ⟨b1, b2, b3⟩ := movedGo_bound hp
   obtain ⟨pn, rfl⟩ : ∃ pn : Nat, p = (pn : Int) := ⟨p.toNat, by omega⟩
   show Ev (fun k => if (pn : Int) < 0 then _ else _) _
   refine Ev.neg (by omega) ?_
   have hseg : ((a.take pn).drop e).length = pn - e := by rw [List.length_drop, List.length_take]; omega
   have htseg : tiny (out ++ (a.take pn).drop e) := hto.append ((ha.take _).drop _)
   have s0 : out = out ++ (a.take e).drop e := by rw [List.drop_eq_nil_of_le (by rw [List.length_take]; omega), List.append_nil]
   refine Ev.congr (fun k => congrArg (fun o => sidingref16_Moved.l1 k a l (R : Int) o bl (i : Int) (pn : Int) (e : Int)) s0) (rm1_loop a l (R : Int) bl i pn (by omega) hla _ out (by omega) e ?_ (pn - e) e (by omega) (Nat.le_refl _))
   have hz : out ++ (a.take pn).drop e = (out ++ (a.take pn).drop e) ++ l[i].f2.take 0 := by simp
   refine Ev.congr (fun k => congrArg (fun o => sidingref16_Moved.l2 k a l (R : Int) o bl (i : Int) (pn : Int) 0) hz) (rm2_loop a l (R : Int) bl i (pn : Int) h v4 (by omega) _ (out ++ (a.take pn).drop e) (by rw [List.length_append, hseg]; omega) ?_ l[i].f2.length 0 (by omega))
   rw [w64 (x := (pn : Int) - l[i].f0) (by omega), w64 (x := (pn : Int) + (l[i].f1.length : Int)) (by omega), w64 (x := (i : Int) + 1) (by omega)]
   have e1 : (pn : Int) + (l[i].f1.length : Int) = ((pn + l[i].f1.length : Nat) : Int) := by omega
   rw [e1]
   have := ih (i + 1) (pn + l[i].f1.length) ((pn : Int) - l[i].f0) (out ++ (a.take pn).drop e ++ l[i].f2) (bl ++ [(pn : Int) - l[i].f0]) (by omega) (by omega) (by omega) (htseg.append (ht _ (List.getElem_mem h))) (by rw [List.length_append, List.length_append, hseg]; omega) (by simp [hbl])
   refine Ev.eq ?_ this
   unfold movedFin
   simp only [Option.bind_some]
   rw [← e1]
   cases movedGo a R (l.drop (i + 1)) ((pn : Int) + (l[i].f1.length : Int)) ((pn : Int) - l[i].f0) with
   | none => rfl
   | some q => simp [putL, byL, List.append_assoc, -List.getElem_cons_drop]
theorem rmoved_ev (a : List ByteArray) (l : List S46) (reach : Int) (ha : tiny a) (hl : ∀ h ∈ l, tinyH h) : Ev (fun k => sidingref16_Moved.f k a l reach) (movedL a l reach) := by
 unfold sidingref16_Moved.f movedL
 refine Ev.bd (rboth_ev a l ha hl) ?_
 by_cases h : bothE a l = 0
 ·obtain ⟨h1, h2⟩ := bothE_zero h
  have h3 := linesErr_len h1
  obtain ⟨c1, c2, c3⟩ := fits_conds h2
  have hval := chk_valid (checkL_zero h2).2
  rw [if_pos h]
  refine Ev.pos h ?_
  by_cases hr1 : reach < 0
  ·rw [if_pos (.inl hr1)]
   exact Ev.pos hr1 (Ev.step (fun k => by rw [sidingref16_Moved.j0]) (Ev.pos rfl (Ev.now _)))
  ·refine Ev.neg hr1 (Ev.step (fun k => by rw [sidingref16_Moved.j0]) ?_)
   by_cases hr2 : 20 < reach
   ·rw [if_pos (.inr hr2)]
    exact Ev.pos (decide_eq_true hr2) (Ev.now _)
   ·rw [if_neg (by omega)]
    refine Ev.neg (by simp; omega) ?_
    obtain ⟨R, rfl⟩ : ∃ R : Nat, reach = (R : Int) := ⟨reach.toNat, by omega⟩
    have := rm0_loop a l R (by omega) ha h3 c3 hval (fun x hx => (hl x hx).2.1) l.length 0 0 0 [] [] (by omega) (Nat.zero_le _) (by omega) (fun _ hs => by cases hs) (by simp) rfl
    refine Ev.eq ?_ this
    unfold movedFin
    rw [Int.toNat_natCast, List.drop_zero]
    simp only [List.nil_append]
    cases movedGo a R l ((0 : Nat) : Int) 0 <;> rfl
 ·rw [if_neg h]
  exact Ev.neg h (Ev.bd (rboth_ev a l ha hl) (Ev.now _))
theorem ints_loop (a b : List Int) (hab : a.length = b.length) (hl : a.length ≤ 9000000000000000000) : ∀ (d i : Nat), i + d = a.length → Ev (fun k => sidingref16_SameInts.l0 k a b (i : Int)) (decide (a.drop i = b.drop i)) := by
 intro d
 induction d with
 | zero =>
  intro i hi
  refine Ev.step (fun k => by rw [sidingref16_SameInts.l0]) ?_
  refine Ev.neg (by omega) (Ev.rt ?_)
  rw [List.drop_eq_nil_of_le (by omega), List.drop_eq_nil_of_le (by omega)]
  simp
 | succ d ih =>
  intro i hi
  have h1 : i < a.length := by omega
  have h2 : i < b.length := by omega
  refine Ev.step (fun k => by rw [sidingref16_SameInts.l0]) ?_
  refine Ev.pos (by omega) (Ev.pos (by omega) (Ev.pos (by omega) ?_))
  rw [rd_at _ _ h1, rd_at _ _ h2, drop_at a i h1, drop_at b i h2]
  by_cases h : a[i] = b[i]
  ·refine Ev.pos h ?_
   rw [w64 (by omega)]
   refine Ev.eq ?_ (ih (i + 1) (by omega))
   rw [Bool.eq_iff_iff, decide_eq_true_iff, decide_eq_true_iff, h, List.cons.injEq]
   simp
  ·refine Ev.neg h (Ev.rt ?_)
   symm
   rw [decide_eq_false_iff_not, List.cons.injEq]
   exact fun e => h e.1
theorem ints_ev (a b : List Int) (hl : a.length ≤ 9000000000000000000) : Ev (fun k => sidingref16_SameInts.f k a b) (decide (a = b)) := by
 unfold sidingref16_SameInts.f
 by_cases h : a.length = b.length
 ·have := ints_loop a b h hl a.length 0 (by omega)
  rw [List.drop_zero, List.drop_zero] at this
  exact Ev.pos (by omega) this
 ·refine Ev.neg (by omega) (Ev.rt ?_)
  rw [decide_eq_false]
  intro e
  exact h (by rw [e])
end Go.Proofs.Ytnajpgimhoighaa.Pr
