/- What apply's functions compute: Exact, put, Invert, at. -/
import Derived.Test.YtnajpgimhoighaaSHunkD
import Derived.Test.YtnajpgimhoighaaF11
import Derived.Test.YtnajpgimhoighaaF15
namespace Go.Proofs.Ytnajpgimhoighaa.Pr
open Go.RowKit Go.Proofs.YtnajpgimhoighaaW.PrintWords Go.Proofs.YtnajpgimhoighaaW.PrintLast Go.Proofs.YtnajpgimhoighaaW.PrintMore
set_option linter.unusedVariables false
set_option linter.unusedSimpArgs false


theorem sequal_loop (a b : List ByteArray) (hl : a.length = b.length) (hb : a.length ≤ 9000000000000000000) : ∀ (d i : Nat), i + d = a.length → Ev (fun k => slices_Equal_string_string.l0 k a b (a.length : Int) (i : Int)) (decide (a.drop i = b.drop i)) := by
 intro d
 induction d with
 | zero =>
  intro i hi
  refine Ev.step (fun k => by rw [slices_Equal_string_string.l0]) ?_
  refine Ev.neg (by omega) (Ev.rt ?_)
  rw [List.drop_eq_nil_of_le (by omega), List.drop_eq_nil_of_le (by omega)]
  simp
 | succ d ih =>
  intro i hi
  have h1 : i < a.length := by omega
  have h2 : i < b.length := by omega
  refine Ev.step (fun k => by rw [slices_Equal_string_string.l0]) ?_
  refine Ev.pos (by omega) (Ev.pos (by omega) (Ev.pos (by omega) (Ev.pos (by omega) ?_)))
  rw [rdOf_at _ _ _ h1, rdOf_at _ _ _ h2, drop_at a i h1, drop_at b i h2]
  by_cases h : a[i] = b[i]
  ·refine Ev.pos (by rw [h]) ?_
   rw [w64 (by omega)]
   refine Ev.eq ?_ (ih (i + 1) (by omega))
   rw [Bool.eq_iff_iff, decide_eq_true_iff, decide_eq_true_iff, h, List.cons.injEq]
   simp
  ·refine Ev.neg (fun e => h (toList_inj.1 e)) (Ev.rt ?_)
   symm
   rw [decide_eq_false_iff_not, List.cons.injEq]
   exact fun e => h e.1
theorem sequal_ev (a b : List ByteArray) (hb : a.length ≤ 9000000000000000000) : Ev (fun k => slices_Equal_string_string.f k a b) (decide (a = b)) := by
 unfold slices_Equal_string_string.f
 by_cases h : a.length = b.length
 ·have := sequal_loop a b h hb a.length 0 (by omega)
  rw [List.drop_zero, List.drop_zero] at this
  exact Ev.pos (by omega) this
 ·refine Ev.neg (by omega) (Ev.rt ?_)
  rw [decide_eq_false]
  intro e
  exact h (by rw [e])

/-- Whether old lines stand at a place. -/
def standsB (a old : List ByteArray) (p : Int) : Bool := decide (0 ≤ p) && decide (p + (old.length : Int) ≤ (a.length : Int)) && decide ((a.take (p + (old.length : Int)).toNat).drop p.toNat = old)
theorem at_ev (a old : List ByteArray) (p : Int) (ha : a.length ≤ 1000000) (ho : old.length ≤ 1000000) (hp : p ≤ 1000000) : Ev (fun k => apply_at.f k a old p) (standsB a old p) := by
 unfold apply_at.f standsB
 by_cases h1 : 0 ≤ p
 ·refine Ev.pos h1 ?_
  rw [w64 (by omega), decide_eq_true h1, Bool.true_and]
  by_cases h2 : p + (old.length : Int) ≤ (a.length : Int)
  ·refine Ev.pos h2 (Ev.pos h1 (Ev.pos (by omega) (Ev.bd (sequal_ev _ _ (by rw [List.length_drop, List.length_take]; omega)) (Ev.rt ?_))))
   rw [decide_eq_true h2, Bool.true_and]
  ·refine Ev.neg h2 (Ev.rt ?_)
   rw [decide_eq_false h2]
   rfl
 ·refine Ev.neg h1 (Ev.rt ?_)
  rw [decide_eq_false h1]
  rfl
theorem stands_fits (a : List ByteArray) (h : S46) (h0 : 0 ≤ h.f0) : standsB a h.f1 h.f0 = fitsAt a h := by
 unfold standsB fitsAt
 rw [decide_eq_true h0, Bool.true_and]

def bothE (a : List ByteArray) (l : List S46) : Int := if linesErr a = 0 then checkL l else linesErr a
theorem acheck_ev (a : List ByteArray) (l : List S46) (ha : small a) : Ev (fun k => apply_check.f k a l) (bothE a l) := by
 unfold apply_check.f bothE
 refine Ev.bc (join_val a ha) ?_
 by_cases h : linesErr a = 0
 ·rw [if_pos h, if_pos h]
  exact Ev.pos rfl (Ev.bd (hcheck_ev l) (Ev.now _))
 ·rw [if_neg h, if_neg h]
  exact Ev.neg h (Ev.now _)
theorem bothE_zero {a : List ByteArray} {l : List S46} (h : bothE a l = 0) : linesErr a = 0 ∧ checkL l = 0 := by
 unfold bothE at h
 split at h
 ·exact ⟨by assumption, h⟩
 ·exact absurd h (by assumption)
theorem linesErr_len {a : List ByteArray} (h : linesErr a = 0) : a.length ≤ 60 := by
 unfold linesErr at h
 split at h
 ·cases h
 ·omega

/-- A result: the lines, or the error. -/
def finL (r : List ByteArray) : List ByteArray × Int := if linesErr r = 0 then (r, 0) else ([], linesErr r)
theorem putL_mem (a : List ByteArray) : ∀ (l : List S46) (pl : List Int) (at_ : Nat) (s : ByteArray), s ∈ putL a at_ l pl → s ∈ a ∨ ∃ h ∈ l, s ∈ h.f2
 | [], _, at_, s, hs => by
  unfold putL at hs
  exact .inl (List.mem_of_mem_drop hs)
 | h :: l, [], at_, s, hs => by
  unfold putL at hs
  exact .inl (List.mem_of_mem_drop hs)
 | h :: l, p :: pl, at_, s, hs => by
  unfold putL at hs
  rcases List.mem_append.1 hs with hs | hs
  ·rcases List.mem_append.1 hs with hs | hs
   ·exact .inl (List.mem_of_mem_take (List.mem_of_mem_drop hs))
   ·exact .inr ⟨h, List.mem_cons_self, hs⟩
  ·rcases putL_mem a l pl _ s hs with h1 | ⟨x, hx, h2⟩
   ·exact .inl h1
   ·exact .inr ⟨x, List.mem_cons_of_mem _ hx, h2⟩
theorem putL_tiny {a : List ByteArray} {l : List S46} {pl : List Int} {at_ : Nat} (ha : tiny a) (hl : ∀ h ∈ l, tiny h.f2) : tiny (putL a at_ l pl) := fun s hs => by
 rcases putL_mem a l pl at_ s hs with h | ⟨x, hx, h⟩
 ·exact ha s h
 ·exact hl x hx s h
theorem put_loop (a : List ByteArray) (l : List S46) (pl : List Int) (hlp : l.length = pl.length) (ha : a.length ≤ 1000000) (hta : tiny a) (hl : l.length ≤ 1000000) (hv : ∀ h ∈ l, h.f2.length ≤ 1000 ∧ tiny h.f2) : ∀ (d i at_ : Nat) (out : List ByteArray), i + d = l.length → tiny out → out.length ≤ at_ + 1000 * i → inOrd a at_ (l.drop i) (pl.drop i) →
  Ev (fun k => apply_put.l0 k a pl out (at_ : Int) l (l.length : Int) (i : Int)) (finL (out ++ putL a at_ (l.drop i) (pl.drop i))) := by
 intro d
 induction d with
 | zero =>
  intro i at_ out hi hto ho hord
  obtain rfl : i = l.length := by omega
  have hat := inOrd_le hord
  refine Ev.step (fun k => by rw [apply_put.l0]) ?_
  refine Ev.neg (by omega) (Ev.pos (by omega) (Ev.pos (by omega) ?_))
  rw [Int.toNat_natCast]
  have ht : tiny (out ++ a.drop at_) := hto.append (hta.drop at_)
  refine Ev.pos (by rw [List.length_drop]; omega) (Ev.bs (Ev.bc (join_val _ ht.small) ?_))
  rw [List.drop_length, hlp, List.drop_length]
  unfold finL putL
  by_cases h : linesErr (out ++ a.drop at_) = 0
  ·rw [if_pos h, if_pos h]
   exact Ev.pos rfl (Ev.now _)
  ·simp only [if_neg h]
   exact Ev.now _
 | succ d ih =>
  intro i at_ out hi hto ho hord
  have h : i < l.length := by omega
  have hp : i < pl.length := by omega
  rw [drop_at l i h, drop_at pl i hp] at hord ⊢
  obtain ⟨o1, o2, o3⟩ := hord
  obtain ⟨v4, v5⟩ := hv _ (List.getElem_mem h)
  refine Ev.step (fun k => by rw [apply_put.l0]) ?_
  refine Ev.pos (by omega) (Ev.pos (by omega) (Ev.pos (by omega) (Ev.pos (by omega) (Ev.pos (by omega) ?_))))
  rw [rd_h _ _ h, rd_at _ _ hp]
  have hlen : ((a.take pl[i].toNat).drop at_).length = pl[i].toNat - at_ := by rw [List.length_drop, List.length_take]; omega
  rw [Int.toNat_natCast]
  refine Ev.pos o1 (Ev.pos (by omega) (Ev.pos (by rw [hlen]; omega) (Ev.bs (Ev.pos (by rw [List.length_append, hlen]; omega) ?_))))
  rw [w64 (x := pl[i] + (l[i].f1.length : Int)) (by omega), w64 (by omega)]
  have e : pl[i] + (l[i].f1.length : Int) = ((pl[i].toNat + l[i].f1.length : Nat) : Int) := by omega
  rw [e]
  have := ih (i + 1) (pl[i].toNat + l[i].f1.length) (out ++ (a.take pl[i].toNat).drop at_ ++ l[i].f2) (by omega) ((hto.append ((hta.take _).drop _)).append v5) (by rw [List.length_append, List.length_append, hlen]; omega) o3
  refine Ev.eq ?_ this
  simp [putL, List.append_assoc]
theorem put_ev (a : List ByteArray) (l : List S46) (pl : List Int) (ha : a.length ≤ 1000000) (hta : tiny a) (hl : l.length ≤ 1000000) (hv : ∀ h ∈ l, h.f2.length ≤ 1000 ∧ tiny h.f2) (hord : inOrd a 0 l pl) : Ev (fun k => apply_put.f k a l pl) (finL (putL a 0 l pl)) := by
 have h := put_loop a l pl (inOrd_len hord) ha hta hl hv l.length 0 0 [] (by omega) (fun _ hs => by cases hs) (by simp) (by simpa using hord)
 refine Ev.eq ?_ h
 simp

/-! ### Exact -/
def exactL (a : List ByteArray) (l : List S46) : List ByteArray × Int := if bothE a l = 0 then (if fitsL a l = true then finL (applL a l) else ([], 6)) else ([], bothE a l)
theorem exact_loop (a : List ByteArray) (l : List S46) (ha : a.length ≤ 1000000) (hl : l.length ≤ 1000000) (hv : ∀ h ∈ l, 0 ≤ h.f0 ∧ h.f0 ≤ 1000000 ∧ h.f1.length ≤ 1000000) (r : List ByteArray × Int) (hr : fitsL a l = true → Ev (fun k => apply_put.f k a l (l.map (·.f0))) r) : ∀ (d i : Nat), i + d = l.length → fitsL a (l.take i) = true →
  Ev (fun k => apply_Exact.l0 k a l ((l.take i).map (·.f0)) l (l.length : Int) (i : Int)) (if fitsL a l = true then r else ([], 6)) := by
 intro d
 induction d with
 | zero =>
  intro i hi hf
  obtain rfl : i = l.length := by omega
  rw [List.take_length] at hf ⊢
  refine Ev.step (fun k => by rw [apply_Exact.l0]) ?_
  rw [if_pos hf]
  exact Ev.neg (by omega) (Ev.bd (hr hf) (Ev.now _))
 | succ d ih =>
  intro i hi hf
  have h : i < l.length := by omega
  obtain ⟨v1, v2, v3⟩ := hv _ (List.getElem_mem h)
  refine Ev.step (fun k => by rw [apply_Exact.l0]) ?_
  refine Ev.pos (by omega) (Ev.pos (by omega) (Ev.pos (by omega) ?_))
  rw [rd_h _ _ h]
  refine Ev.bd (at_ev a _ _ ha (by omega) (by omega)) ?_
  rw [stands_fits a _ v1]
  cases hfa : fitsAt a l[i] with
  | false =>
   refine Ev.neg (by decide) (Ev.rt ?_)
   rw [if_neg]
   intro hall
   unfold fitsL at hall
   rw [List.all_eq_true] at hall
   rw [hall _ (List.getElem_mem h)] at hfa
   cases hfa
  | true =>
   refine Ev.pos rfl (Ev.pos (by rw [List.length_map, List.length_take]; omega) ?_)
   rw [w64 (by omega), show (l.take i).map (·.f0) ++ [l[i].f0] = (l.take (i + 1)).map (·.f0) by rw [take_succ_at l i h, List.map_append]; rfl]
   refine ih (i + 1) (by omega) ?_
   unfold fitsL at hf ⊢
   rw [take_succ_at l i h, List.all_append, hf]
   simp [hfa]
theorem fits_conds {l : List S46} (hc : checkL l = 0) : (∀ h ∈ l, 0 ≤ h.f0 ∧ h.f0 ≤ 1000000 ∧ h.f1.length ≤ 1000000) ∧ (∀ h ∈ l, h.f2.length ≤ 1000) ∧ l.length ≤ 40 := by
 obtain ⟨h1, h2⟩ := checkL_zero hc
 refine ⟨fun h hh => ?_, fun h hh => ?_, h1⟩
 ·obtain ⟨v1, v2, _, _, v3, _⟩ := validH_true (chk_valid h2 h hh)
  omega
 ·obtain ⟨v1, v2, _, _, v3, v4, _⟩ := validH_true (chk_valid h2 h hh)
  omega
theorem appl_ord {a : List ByteArray} {l : List S46} (hc : checkL l = 0) (hf : fitsL a l = true) : inOrd a 0 l (l.map (·.f0)) := inOrd_of (checkL_zero hc).2 hf (by simp) (Nat.zero_le _)
theorem exact_ev (a : List ByteArray) (l : List S46) (ha : tiny a) (hl : ∀ h ∈ l, tinyH h) : Ev (fun k => apply_Exact.f k a l) (exactL a l) := by
 unfold apply_Exact.f exactL
 refine Ev.bd (acheck_ev a l ha.small) ?_
 by_cases h : bothE a l = 0
 ·obtain ⟨h1, h2⟩ := bothE_zero h
  have h3 := linesErr_len h1
  obtain ⟨c1, c2, c3⟩ := fits_conds h2
  rw [if_pos h]
  refine Ev.pos h ?_
  exact exact_loop a l (by omega) (by omega) c1 _ (fun hf => put_ev a l _ (by omega) ha (by omega) (fun x hx => ⟨c2 x hx, (hl x hx).2.1⟩) (appl_ord h2 hf)) l.length 0 (by omega) rfl
 ·rw [if_neg h]
  exact Ev.neg h (Ev.now _)
/-! ### Invert -/
def growth (h : S46) : Int := (h.f2.length : Int) - (h.f1.length : Int)
/-- The inverse, or none: a place is too great. -/
def invFrom : Int → List S46 → Option (List S46)
 | _, [] => some []
 | more, h :: l => if 60 < h.f0 + more then none else (invFrom (more + growth h) l).map (⟨h.f0 + more, h.f2, h.f1⟩ :: ·)
def invL (l : List S46) : List S46 × Int := if checkL l = 0 then (match invFrom 0 l with | some r => (r, 0) | none => ([], 16)) else ([], checkL l)
theorem clone_val (l : List ByteArray) (h : l.length ≤ 1000000) : slices_Clone.f l = some l := by
 unfold slices_Clone.f
 rw [if_pos (by omega)]
theorem invert_loop (l : List S46) (hl : l.length ≤ 1000) (hv : ∀ h ∈ l, validH h = true) : ∀ (d i : Nat) (out : List S46) (more : Int), i + d = l.length → out.length = i → -100 * (i : Int) ≤ more → more ≤ 100 * (i : Int) →
  Ev (fun k => apply_Invert.l0 k out more l (l.length : Int) (i : Int)) (match invFrom more (l.drop i) with | some r => (out ++ r, 0) | none => ([], 16)) := by
 intro d
 induction d with
 | zero =>
  intro i out more hi ho hm1 hm2
  obtain rfl : i = l.length := by omega
  refine Ev.step (fun k => by rw [apply_Invert.l0]) ?_
  refine Ev.neg (by omega) (Ev.rt ?_)
  rw [List.drop_length]
  simp [invFrom]
 | succ d ih =>
  intro i out more hi ho hm1 hm2
  have h : i < l.length := by omega
  obtain ⟨v1, v2, _, _, v3, v4, _⟩ := validH_true (hv _ (List.getElem_mem h))
  refine Ev.step (fun k => by rw [apply_Invert.l0]) ?_
  refine Ev.pos (by omega) (Ev.pos (by omega) (Ev.pos (by omega) ?_))
  rw [rd_h _ _ h, drop_at l i h, w64 (x := l[i].f0 + more) (by omega)]
  unfold invFrom
  by_cases h6 : 60 < l[i].f0 + more
  ·refine Ev.pos h6 (Ev.rt ?_)
   rw [if_pos h6]
  ·refine Ev.neg h6 (Ev.bc (clone_val _ (by omega)) (Ev.bc (clone_val _ (by omega)) (Ev.pos (by omega) ?_)))
   rw [if_neg h6, w64 (x := (l[i].f2.length : Int) - (l[i].f1.length : Int)) (by omega), w64 (x := more + _) (by omega), w64 (by omega)]
   refine Ev.eq ?_ (ih (i + 1) (out ++ [⟨l[i].f0 + more, l[i].f2, l[i].f1⟩]) (more + ((l[i].f2.length : Int) - (l[i].f1.length : Int))) (by omega) (by simp [ho]) (by omega) (by omega))
   unfold growth
   cases invFrom (more + ((l[i].f2.length : Int) - (l[i].f1.length : Int))) (l.drop (i + 1)) <;> simp
theorem invert_ev (l : List S46) : Ev (fun k => apply_Invert.f k l) (invL l) := by
 unfold apply_Invert.f invL
 refine Ev.bd (hcheck_ev l) ?_
 by_cases h : checkL l = 0
 ·obtain ⟨h1, h2⟩ := checkL_zero h
  rw [if_pos h]
  refine Ev.pos h ?_
  have := invert_loop l (by omega) (chk_valid h2) l.length 0 [] 0 (by omega) rfl (by simp) (by simp)
  simpa using this
 ·rw [if_neg h]
  exact Ev.neg h (Ev.now _)
end Go.Proofs.Ytnajpgimhoighaa.Pr
