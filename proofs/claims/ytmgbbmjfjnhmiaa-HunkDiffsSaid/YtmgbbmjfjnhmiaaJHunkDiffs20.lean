/- Part 20 of the proof of HunkDiffs: texts put together. -/
import Derived.Test.YtmgbbmjfjnhmiaaJHunkDiffs1
import Derived.Test.YtmgbbmjfjnhmiaaJHunkDiffs8
import Derived.Test.YtmgbbmjfjnhmiaaJHunkDiffs9
import Derived.Test.YtmgbbmjfjnhmiaaJHunkDiffs11
import Derived.Test.YtmgbbmjfjnhmiaaJHunkDiffs14
import Derived.Test.YtmgbbmjfjnhmiaaJHunkDiffs15
import Derived.Test.YtmgbbmjfjnhmiaaJHunkDiffs16
import Derived.Test.YtmgbbmjfjnhmiaaJHunkDiffs17
import Derived.Test.YtmgbbmjfjnhmiaaJHunkDiffs19
import Derived.Deep.Slices
import Derived.ChangeSame
import Derived.SizedLaws
set_option linter.unusedVariables false
set_option linter.unusedSimpArgs false
section
namespace Go.Proofs.Ytmgbbmjfjnhmiaa.Pr
open Go.RowKit Go.Proofs.YtmgbbmjfjnhmiaaW.PrintWords Go.Proofs.YtmgbbmjfjnhmiaaW.PrintLast Go.Proofs.YtmgbbmjfjnhmiaaW.PrintMore
theorem hfits_loop (a : List ByteArray) (l : List S40) (ha : a.length ≤ 1000000) (hl : l.length ≤ 1000000) (hv : ∀ h ∈ l, 0 ≤ h.f0 ∧ h.f0 ≤ 1000000 ∧ h.f1.length ≤ 1000000) : ∀ (d i : Nat), i + d = l.length →
  Ev (fun k => hunk_fits.l0 k a l (l.length : Int) (i : Int)) (fitsL a (l.drop i)) := by
 intro d
 induction d with
 | zero =>
  intro i hi
  obtain rfl : i = l.length := by omega
  refine Ev.step (fun k => by rw [hunk_fits.l0]) ?_
  refine Ev.neg (by omega) (Ev.rt ?_)
  rw [List.drop_length]
  rfl
 | succ d ih =>
  intro i hi
  have h : i < l.length := by omega
  obtain ⟨v1, v2, v3⟩ := hv _ (List.getElem_mem h)
  refine Ev.step (fun k => by rw [hunk_fits.l0]) ?_
  refine Ev.pos (by omega) (Ev.pos (by omega) (Ev.pos (by omega) ?_))
  rw [rd_h _ _ h, drop_at l i h, w64 (x := l[i].f0 + (l[i].f1.length : Int)) (by omega)]
  unfold fitsL
  rw [List.all_cons]
  unfold fitsAt
  by_cases hf : l[i].f0 + (l[i].f1.length : Int) ≤ (a.length : Int)
  ·refine Ev.neg (by omega) (Ev.pos v1 (Ev.pos (by omega) (Ev.pos hf (Ev.bd (sequal_ev _ _ (by first | omega | (rw [List.length_drop, List.length_take]; omega))) ?_))))
   rw [decide_eq_true hf, Bool.true_and]
   by_cases hs : (a.take (l[i].f0 + (l[i].f1.length : Int)).toNat).drop l[i].f0.toNat = l[i].f1
   ·rw [decide_eq_true hs, Bool.true_and]
    refine Ev.pos rfl ?_
    rw [w64 (by omega)]
    exact ih (i + 1) (by omega)
   ·rw [decide_eq_false hs]
    exact Ev.neg (by decide) (Ev.rt rfl)
  ·refine Ev.pos (by omega) (Ev.rt ?_)
   rw [decide_eq_false hf]
   rfl
theorem hfits_ev (a : List ByteArray) (l : List S40) (ha : a.length ≤ 1000000) (hl : l.length ≤ 1000000) (hv : ∀ h ∈ l, 0 ≤ h.f0 ∧ h.f0 ≤ 1000000 ∧ h.f1.length ≤ 1000000) : Ev (fun k => hunk_fits.f k a l) (fitsL a l) := hfits_loop a l ha hl hv l.length 0 (by omega)
def widenV (a : List ByteArray) (l : List S40) (n : Int) : List S40 × Int :=
 if linesErr a = 0 then (if checkL l = 0 then (if n < 0 ∨ 5 < n then ([], 2) else if fitsL a l = true then (widL a n l, 0) else ([], 6)) else ([], checkL l)) else ([], linesErr a)
theorem check_vals {l : List S40} (h : checkL l = 0) : l.length ≤ 40 ∧ ∀ x ∈ l, 0 ≤ x.f0 ∧ x.f0 ≤ 1000000 ∧ x.f1.length ≤ 1000000 := by
 obtain ⟨h1, h2⟩ := checkL_zero h
 refine ⟨h1, fun x hx => ?_⟩
 obtain ⟨u1, u2, _, _, u5, _⟩ := validH_true (chk_valid h2 x hx)
 omega
theorem linesErr_60 {a : List ByteArray} (h : linesErr a = 0) : a.length ≤ 60 := by
 unfold linesErr at h
 split at h
 ·cases h
 ·omega
theorem widen_ev (a : List ByteArray) (l : List S40) (n : Int) (hs : small a) : Ev (fun k => hunk_Widen.f k a l n) (widenV a l n) := by
 unfold hunk_Widen.f widenV
 refine Ev.bc (join_val a hs) ?_
 unfold hunk_Widen.g
 by_cases h1 : linesErr a = 0
 ·rw [if_pos h1, if_pos h1]
  refine Ev.pos rfl (Ev.bd (hcheck_ev l) ?_)
  by_cases h2 : checkL l = 0
  ·rw [if_pos h2]
   refine Ev.pos h2 ?_
   by_cases h3 : n < 0 ∨ 5 < n
   ·rw [if_pos h3]
    exact Ev.pos h3 (Ev.now _)
   ·rw [if_neg h3]
    obtain ⟨c1, c2⟩ := check_vals h2
    have ha := linesErr_60 h1
    refine Ev.neg h3 (Ev.bd (hfits_ev a l (by omega) (by omega) c2) ?_)
    by_cases h4 : fitsL a l = true
    ·rw [if_pos h4]
     refine Ev.pos ⟨by omega, by omega⟩ ?_
     rw [go_wid (by omega) (by omega) (by omega) (checkL_zero h2).2 h4]
     refine Ev.rt ?_
     first | rfl | simp only [if_pos h4]
    ·rw [if_neg h4]
     first | exact Ev.neg h4 (Ev.now _) | (simp only [if_neg h4]; exact Ev.now _)
  ·rw [if_neg h2]
   exact Ev.neg h2 (Ev.now _)
 ·rw [if_neg h1, if_neg h1]
  exact Ev.neg h1 (Ev.now _)
theorem rd_drop {l : List S40} {j : Nat} {h : S40} {t : List S40} (hs : l.drop j = h :: t) : rd_T40 l (j : Int) = h ∧ j < l.length ∧ l.drop (j + 1) = t := by
 have hj : j < l.length := by
  apply Classical.byContradiction
  intro hn
  rw [List.drop_eq_nil_of_le (by omega)] at hs
  cases hs
 rw [drop_at l j hj] at hs
 obtain ⟨e1, e2⟩ := List.cons.inj hs
 exact ⟨by rw [rd_h _ _ hj, e1], hj, e2⟩
theorem mx_int (x y : Int) : mx x y = max x y := by
 unfold mx
 split <;> omega
theorem mn_int (x y : Int) : mn x y = min x y := by
 unfold mn
 split <;> omega
def mrg (n : Int) : Int → List S40 → Nat
 | _, [] => 0
 | e, h :: t => if 0 < n ∧ h.f0 - n ≤ e + n then mrg n (wend h) t + 1 else 0
def gN (a : List ByteArray) : List ByteArray → Int → List S40 → List ByteArray × Int
 | N, e, [] => (N, e)
 | N, e, h :: t => gN a (N ++ widen.cut a e h.f0 ++ h.f2) (wend h) t
theorem mrg_le (n : Int) : ∀ (t : List S40) (e : Int), mrg n e t ≤ t.length
 | [], _ => Nat.le_refl _
 | h :: t, e => by
  unfold mrg
  split
  ·have := mrg_le n t (wend h)
   simp only [List.length_cons]
   omega
  ·exact Nat.zero_le _
theorem grp_run (a : List ByteArray) (n : Int) : ∀ (t : List S40) (fr : Int) (N : List ByteArray) (e : Int),
  grp a n fr N e t = ⟨fr, widen.cut a fr (min (a.length : Int) ((gN a N e (t.take (mrg n e t))).2 + n)), (gN a N e (t.take (mrg n e t))).1 ++ widen.cut a (gN a N e (t.take (mrg n e t))).2 (min (a.length : Int) ((gN a N e (t.take (mrg n e t))).2 + n))⟩ :: widL a n (t.drop (mrg n e t)) := by
 intro t
 induction t with
 | nil =>
  intro fr N e
  rfl
 | cons h t ih =>
  intro fr N e
  by_cases hm : 0 < n ∧ h.f0 - n ≤ e + n
  ·rw [show grp a n fr N e (h :: t) = grp a n fr (N ++ widen.cut a e h.f0 ++ h.f2) (wend h) t from if_pos hm, ih, show mrg n e (h :: t) = mrg n (wend h) t + 1 from if_pos hm]
   rfl
  ·rw [show mrg n e (h :: t) = 0 from if_neg hm, show grp a n fr N e (h :: t) = _ :: _ from if_neg hm]
   rfl
theorem wlast_ev (a : List ByteArray) (l : List S40) (n : Int) (hn : 0 ≤ n) (h5 : n ≤ 5) (hl : l.length ≤ 1000) (out : List S40) (p : Nat) (r : List S40 × Int) : ∀ (t : List S40) (j : Nat) (h : S40) (free : Int), l.drop j = h :: t → chkFrom free (h :: t) = 0 →
  Ev (fun k => sidingref15_Widen.j3 k a l n out (p : Int) ((j + mrg n (wend h) t : Nat) : Int)) r → Ev (fun k => sidingref15_Widen.l1 k a l n out (p : Int) (j : Int)) r := by
 intro t
 induction t with
 | nil =>
  intro j h free hd hc hr
  obtain ⟨e1, e2, e3⟩ := rd_drop hd
  have hlen := congrArg List.length hd
  rw [List.length_drop, List.length_singleton] at hlen
  refine Ev.step (fun k => by rw [sidingref15_Widen.l1]) ?_
  rw [w64 (by omega)]
  exact Ev.neg (by omega) hr
 | cons x t ih =>
  intro j h free hd hc hr
  obtain ⟨e1, e2, e3⟩ := rd_drop hd
  obtain ⟨f1, f2, f3⟩ := rd_drop e3
  obtain ⟨v1, v2, v3⟩ := chk_cons hc
  obtain ⟨u1, u2, _, _, u5, u6, _⟩ := validH_true v1
  obtain ⟨w1, w2, _, _, w5, w6, _⟩ := validH_true (chk_cons v3).1
  have hw : wend h = h.f0 + (h.f1.length : Int) := rfl
  refine Ev.step (fun k => by rw [sidingref15_Widen.l1]) ?_
  rw [show wrap64 ((j : Int) + 1) = ((j + 1 : Nat) : Int) by rw [w64 (by omega)]; omega, e1, f1]
  refine Ev.pos (by omega) ?_
  by_cases h0 : n > 0
  ·refine Ev.pos h0 (Ev.pos (by omega) (Ev.pos (by omega) (Ev.pos (by omega) ?_)))
   rw [w64 (x := x.f0 - n) (by omega), w64 (x := h.f0 + (h.f1.length : Int)) (by omega), w64 (by omega)]
   by_cases hm : x.f0 - n ≤ h.f0 + (h.f1.length : Int) + n
   ·refine Ev.pos hm (ih (j + 1) x _ e3 v3 ?_)
    rw [show mrg n (wend h) (x :: t) = mrg n (wend x) t + 1 from if_pos ⟨h0, hm⟩] at hr
    rw [show j + 1 + mrg n (wend x) t = j + (mrg n (wend x) t + 1) by omega]
    exact hr
   ·rw [show mrg n (wend h) (x :: t) = 0 from if_neg (fun hh => hm hh.2)] at hr
    exact Ev.neg hm hr
  ·rw [show mrg n (wend h) (x :: t) = 0 from if_neg (fun hh => h0 hh.1)] at hr
   exact Ev.neg h0 hr
theorem wnew_ev (a : List ByteArray) (l : List S40) (n : Int) (ha : a.length ≤ 1000) (hl : l.length ≤ 1000) (out : List S40) (ho : out.length ≤ 1000000) (last : Nat) (hlast : last < l.length) (fr z : Int) (O : List ByteArray) (r : List S40 × Int) (hz : z ≤ (a.length : Int)) : ∀ (m i : Nat) (at_ free : Int) (N : List ByteArray), i + m = last + 1 → 0 ≤ at_ → at_ ≤ free → chkFrom free (l.drop i) = 0 → fitsL a (l.drop i) = true → N.length ≤ 2000 * i + 2000 → (gN a N at_ ((l.drop i).take m)).2 ≤ z →
  Ev (fun k => sidingref15_Widen.l0 k a l n (out ++ [⟨fr, O, (gN a N at_ ((l.drop i).take m)).1 ++ widen.cut a (gN a N at_ ((l.drop i).take m)).2 z⟩]) ((last + 1 : Nat) : Int)) r →
  Ev (fun k => sidingref15_Widen.l2 k a l n out (last : Int) z at_ (i : Int) fr O N) r := by
 intro m
 induction m with
 | zero =>
  intro i at_ free N him h0 hf hc hfi hN hgz hr
  have hgz' : at_ ≤ z := hgz
  have hl1 := cut_len a at_ z
  refine Ev.step (fun k => by rw [sidingref15_Widen.l2]) ?_
  refine Ev.neg (by omega) (Ev.pos h0 (Ev.pos hgz' (Ev.pos hz (Ev.pos (by show N.length + (widen.cut a at_ z).length < _; omega) (Ev.pos (by omega) ?_)))))
  rw [show wrap64 ((last : Int) + 1) = ((last + 1 : Nat) : Int) by rw [w64 (by omega)]; omega]
  exact hr
 | succ m ih =>
  intro i at_ free N him h0 hf hc hfi hN hgz hr
  have hi : i < l.length := by omega
  have hd := drop_at l i hi
  rw [hd] at hc hfi hgz hr
  obtain ⟨v1, v2, v3⟩ := chk_cons hc
  obtain ⟨u1, u2, _, _, u5, u6, _⟩ := validH_true v1
  obtain ⟨f1, f2, f3⟩ := fits_cons hfi
  have hw : wend l[i] = l[i].f0 + (l[i].f1.length : Int) := rfl
  have hl1 := cut_len a at_ l[i].f0
  refine Ev.step (fun k => by rw [sidingref15_Widen.l2]) ?_
  rw [rd_h _ _ hi]
  refine Ev.pos (by omega) (Ev.pos (by omega) (Ev.pos (by omega) (Ev.pos h0 (Ev.pos (by omega) (Ev.pos (by omega) (Ev.pos (by show N.length + (widen.cut a at_ l[i].f0).length < _; omega) (Ev.bs (Ev.pos (by rw [List.length_append]; show N.length + (widen.cut a at_ l[i].f0).length + _ < _; omega) ?_))))))))
  rw [w64 (x := l[i].f0 + (l[i].f1.length : Int)) (by omega), show wrap64 ((i : Int) + 1) = ((i + 1 : Nat) : Int) by rw [w64 (by omega)]; omega]
  exact ih (i + 1) (wend l[i]) (wend l[i] + 1) (N ++ widen.cut a at_ l[i].f0 ++ l[i].f2) (by omega) (by omega) (by omega) (by rw [hw]; exact v3) f3 (by simp only [List.length_append]; omega) hgz hr
theorem gN_end (a : List ByteArray) : ∀ (t : List S40) (N : List ByteArray) (e free : Int), e ≤ (a.length : Int) → fitsL a t = true → (gN a N e t).2 ≤ (a.length : Int)
 | [], N, e, free, h, _ => h
 | h :: t, N, e, free, _, hf => gN_end a t _ (wend h) 0 (fits_cons hf).1 (fits_cons hf).2.2
theorem fits_take {a : List ByteArray} : ∀ {t : List S40} (m : Nat), fitsL a t = true → fitsL a (t.take m) = true
 | [], m, h => by rw [List.take_nil]; rfl
 | h :: t, 0, _ => rfl
 | h :: t, m + 1, hf => by
  have h1 := fits_take (t := t) m (by unfold fitsL at hf ⊢; rw [List.all_cons, Bool.and_eq_true] at hf; exact hf.2)
  unfold fitsL at hf h1 ⊢
  rw [List.all_cons, Bool.and_eq_true] at hf
  rw [List.take_succ_cons, List.all_cons, hf.1, h1]
  rfl
theorem chk_drop : ∀ {l : List S40} {free : Int} (m : Nat), chkFrom free l = 0 → ∃ free', chkFrom free' (l.drop m) = 0 ∧ (0 ≤ free → 0 ≤ free')
 | l, free, 0, h => ⟨free, h, fun h => h⟩
 | [], free, m + 1, h => ⟨free, by rw [List.drop_nil]; exact h, fun h => h⟩
 | h :: t, free, m + 1, hc => by
  obtain ⟨v1, v2, v3⟩ := chk_cons hc
  obtain ⟨f', h1, h2⟩ := chk_drop (l := t) m v3
  have u := validH_true v1
  exact ⟨f', h1, fun _ => h2 (by omega)⟩
theorem gN_last (a : List ByteArray) : ∀ (t : List S40) (m : Nat) (N : List ByteArray) (h : S40), m ≤ t.length → (gN a N (wend h) (t.take m)).2 = wend (((h :: t)[m]?).getD h)
 | t, 0, N, h, _ => by
  rw [List.take_zero]
  rfl
 | [], m + 1, N, h, hm => absurd hm (by simp)
 | x :: t, m + 1, N, h, hm => by
  have ih := gN_last a t m (N ++ widen.cut a (wend h) x.f0 ++ x.f2) x (Nat.le_of_succ_le_succ hm)
  rw [List.take_succ_cons]
  show (gN a (N ++ widen.cut a (wend h) x.f0 ++ x.f2) (wend x) (t.take m)).2 = _
  rw [ih]
  show _ = wend (((x :: t)[m]?).getD h)
  have hlt : m < (x :: t).length := by simp only [List.length_cons] at hm ⊢; omega
  rw [List.getElem?_eq_getElem hlt]
  rfl
theorem chk_self {h : S40} {t : List S40} {free : Int} (hc : chkFrom free (h :: t) = 0) : chkFrom h.f0 (h :: t) = 0 := by
 obtain ⟨v1, v2, v3⟩ := chk_cons hc
 unfold chkFrom
 rw [if_pos v1, if_neg (Int.lt_irrefl _)]
 exact v3
theorem wref_loop (a : List ByteArray) (l : List S40) (n : Int) (hn : 0 ≤ n) (h5 : n ≤ 5) (ha : a.length ≤ 1000) (hl : l.length ≤ 1000) : ∀ (d p : Nat) (free : Int) (out : List S40), l.length - p ≤ d → chkFrom free (l.drop p) = 0 → 0 ≤ free → fitsL a (l.drop p) = true → out.length ≤ p → p ≤ l.length →
  Ev (fun k => sidingref15_Widen.l0 k a l n out (p : Int)) (out ++ widL a n (l.drop p), 0) := by
 intro d
 induction d with
 | zero =>
  intro p free out hd hc hf0 hf ho hp
  obtain rfl : p = l.length := by omega
  refine Ev.step (fun k => by rw [sidingref15_Widen.l0]) ?_
  refine Ev.neg (by omega) (Ev.rt ?_)
  rw [List.drop_length]
  show (out, (0 : Int)) = (out ++ [], 0)
  rw [List.append_nil]
 | succ d ih =>
  intro p free out hd hc hf0 hf ho hp
  by_cases hpl : p = l.length
  ·subst hpl
   refine Ev.step (fun k => by rw [sidingref15_Widen.l0]) ?_
   refine Ev.neg (by omega) (Ev.rt ?_)
   rw [List.drop_length]
   show (out, (0 : Int)) = (out ++ [], 0)
   rw [List.append_nil]
  ·have hlt : p < l.length := by omega
   have hdr := drop_at l p hlt
   rw [hdr] at hc hf
   obtain ⟨v1, v2, v3⟩ := chk_cons hc
   obtain ⟨u1, u2, _, _, u5, u6, _⟩ := validH_true v1
   obtain ⟨f1, f2, f3⟩ := fits_cons hf
   refine Ev.step (fun k => by rw [sidingref15_Widen.l0]) ?_
   refine Ev.pos (by omega) (wlast_ev a l n hn h5 hl out p _ (l.drop (p + 1)) p l[p] free hdr hc ?_)
   obtain ⟨m, hm⟩ : ∃ m, m = mrg n (wend l[p]) (l.drop (p + 1)) := ⟨_, rfl⟩
   have hml : m ≤ (l.drop (p + 1)).length := by rw [hm]; exact mrg_le _ _ _
   rw [← hm]
   have hml2 := hml
   rw [List.length_drop] at hml2
   have hpm : p + m < l.length := by omega
   have hlx : (l.drop (p + 1)).length = l.length - (p + 1) := List.length_drop
   obtain ⟨fm, cm, _⟩ := chk_drop (l := l.drop p) m (by rw [hdr]; exact hc)
   rw [List.drop_drop, drop_at l (p + m) hpm] at cm
   obtain ⟨q1, q2, q3⟩ := chk_cons cm
   obtain ⟨w1, w2, _, _, w5, w6, _⟩ := validH_true q1
   have hwe : ∀ N, (gN a N (wend l[p]) ((l.drop (p + 1)).take m)).2 = wend l[p + m] := fun N => by
    rw [gN_last a _ m N l[p] hml, ← hdr, List.getElem?_drop, List.getElem?_eq_getElem hpm]
    rfl
   have hend : wend l[p + m] ≤ (a.length : Int) := by
    rw [← hwe []]
    exact gN_end a _ _ _ 0 f1 (fits_take m f3)
   have hwm : wend l[p + m] = l[p + m].f0 + (l[p + m].f1.length : Int) := rfl
   have hge : l[p].f0 ≤ wend l[p + m] := by
    have : ∀ (t : List S40) (N : List ByteArray) (e : Int), chkFrom e t = 0 → e ≤ (gN a N e t).2 ∨ t ≠ [] := by
     intro t
     cases t with
     | nil => intro N e _; exact .inl (Int.le_refl _)
     | cons x t => intro N e _; exact .inr (by simp)
    have key : ∀ (t : List S40) (N : List ByteArray) (e free : Int), e ≤ free → chkFrom free t = 0 → ∀ m, e ≤ (gN a N e (t.take m)).2 := by
     intro t
     induction t with
     | nil => intro N e free _ _ m; rw [List.take_nil]; exact Int.le_refl _
     | cons x t iht =>
      intro N e free hef hcx m
      cases m with
      | zero => exact Int.le_refl _
      | succ m =>
       obtain ⟨y1, y2, y3⟩ := chk_cons hcx
       have z1 := iht (N ++ widen.cut a e x.f0 ++ x.f2) (wend x) _ (by show x.f0 + (x.f1.length : Int) ≤ x.f0 + (x.f1.length : Int) + 1; omega) y3 m
       rw [List.take_succ_cons]
       show e ≤ (gN a (N ++ widen.cut a e x.f0 ++ x.f2) (wend x) (t.take m)).2
       have hwx : wend x = x.f0 + (x.f1.length : Int) := rfl
       omega
    have z2 := key (l.drop (p + 1)) [] (wend l[p]) _ (by show l[p].f0 + (l[p].f1.length : Int) ≤ l[p].f0 + (l[p].f1.length : Int) + 1; omega) v3 m
    rw [hwe] at z2
    have hwx : wend l[p] = l[p].f0 + (l[p].f1.length : Int) := rfl
    omega
   have hwp : wend l[p] = l[p].f0 + (l[p].f1.length : Int) := rfl
   refine Ev.step (fun k => by rw [sidingref15_Widen.j3]) ?_
   rw [rd_h _ _ hlt, rd_h _ _ hpm]
   rw [w64 (x := l[p].f0 - n) (by omega), w64 (x := l[p + m].f0 + (l[p + m].f1.length : Int)) (by omega), w64 (x := l[p + m].f0 + (l[p + m].f1.length : Int) + n) (by omega), mx_int, mn_int]
   rw [← hwm]
   obtain ⟨z, hz⟩ : ∃ z, z = min (a.length : Int) (wend l[p + m] + n) := ⟨_, rfl⟩
   obtain ⟨fr, hfr⟩ : ∃ fr, fr = max 0 (l[p].f0 - n) := ⟨_, rfl⟩
   rw [← hz, ← hfr]
   have hl1 := cut_len a fr z
   have hl2 := cut_len a fr l[p].f0
   refine Ev.pos (by omega) (Ev.pos (by omega) (Ev.pos (by omega) (Ev.pos (by omega) (Ev.bs (Ev.pos (by omega) (Ev.pos (by omega) (Ev.pos (by omega) (Ev.pos (by show 0 + (widen.cut a fr z).length < _; omega) ?_))))))))
   have htk : (l.drop p).take (m + 1) = l[p] :: (l.drop (p + 1)).take m := by rw [hdr, List.take_succ_cons]
   have hg : gN a [] fr ((l.drop p).take (m + 1)) = gN a (widen.cut a fr l[p].f0 ++ l[p].f2) (wend l[p]) ((l.drop (p + 1)).take m) := by
    rw [htk]
    show gN a ([] ++ widen.cut a fr l[p].f0 ++ l[p].f2) (wend l[p]) _ = _
    rw [List.nil_append]
   refine wnew_ev a l n ha hl out (by omega) (p + m) hpm fr z _ _ (by omega) (m + 1) p fr l[p].f0 [] (by omega) (by omega) (by omega) ?_ (by rw [hdr]; exact hf) (by simp) (by rw [hg, hwe]; omega) ?_
   ·rw [hdr]
    exact chk_self hc
   ·rw [hg, hwe]
    have hn2 := ih (p + m + 1) (wend l[p + m] + 1) (out ++ [⟨fr, widen.cut a fr z, (gN a (widen.cut a fr l[p].f0 ++ l[p].f2) (wend l[p]) ((l.drop (p + 1)).take m)).1 ++ widen.cut a (wend l[p + m]) z⟩]) (by omega) q3 (by omega) ?_ (by rw [List.length_append, List.length_singleton]; omega) (by omega)
    ·rw [hdr]
     show Ev _ (out ++ grp a n (max 0 (l[p].f0 - n)) (widen.cut a (max 0 (l[p].f0 - n)) l[p].f0 ++ l[p].f2) (wend l[p]) (l.drop (p + 1)), 0)
     rw [grp_run, ← hm, ← hfr, hwe, ← hz, List.drop_drop]
     rw [List.append_assoc, List.singleton_append, show p + m + 1 = p + 1 + m by omega] at hn2
     rw [show p + m + 1 = p + 1 + m by omega]
     exact hn2
    ·have : ∀ (t : List S40) (m : Nat), fitsL a t = true → fitsL a (t.drop m) = true := by
      intro t m ht
      unfold fitsL at ht ⊢
      rw [List.all_eq_true] at ht ⊢
      exact fun x hx => ht x (List.mem_of_mem_drop hx)
     have h9 := this _ m f3
     rw [List.drop_drop] at h9
     rw [show p + m + 1 = p + 1 + m by omega]
     exact h9
theorem rwiden_ev (a : List ByteArray) (l : List S40) (n : Int) (hs : tiny a) (ht : ∀ h ∈ l, tinyH h) : Ev (fun k => sidingref15_Widen.f k a l n) (widenV a l n) := by
 unfold sidingref15_Widen.f widenV
 refine Ev.bd (rlines_ev a hs) ?_
 by_cases h1 : linesErr a = 0
 ·rw [if_pos h1]
  refine Ev.pos h1 (Ev.bd (rcheck_ev l ht) ?_)
  by_cases h2 : checkL l = 0
  ·rw [if_pos h2]
   refine Ev.pos h2 ?_
   by_cases h3 : n < 0
   ·rw [if_pos (Or.inl h3)]
    refine Ev.pos h3 (Ev.step (fun k => by rw [sidingref15_Widen.j0]) ?_)
    exact Ev.pos rfl (Ev.now _)
   ·refine Ev.neg h3 (Ev.step (fun k => by rw [sidingref15_Widen.j0]) ?_)
    by_cases h4 : 5 < n
    ·rw [if_pos (Or.inr h4)]
     exact Ev.pos (decide_eq_true h4) (Ev.now _)
    ·rw [if_neg (by omega)]
     obtain ⟨c1, c2⟩ := check_vals h2
     have ha := linesErr_60 h1
     refine Ev.neg (by simpa using h4) (Ev.bd (fits_ev a l (by omega) (by omega) c2) ?_)
     by_cases h5 : fitsL a l = true
     ·rw [if_pos h5]
      first | refine Ev.pos h5 ?_ | skip
      exact wref_loop a l n (by omega) (by omega) (by omega) (by omega) l.length 0 0 [] (by omega) (checkL_zero h2).2 (by omega) h5 (by simp) (by omega)
     ·rw [if_neg h5]
      first | exact Ev.neg h5 (Ev.now _) | (simp only [if_neg h5]; exact Ev.now _)
  ·rw [if_neg h2]
   exact Ev.neg h2 (Ev.bd (rcheck_ev l ht) (Ev.now _))
 ·rw [if_neg h1]
  exact Ev.neg h1 (Ev.bd (rlines_ev a hs) (Ev.now _))
end Go.Proofs.Ytmgbbmjfjnhmiaa.Pr
end
section
namespace Go.Proofs.Ytmgbbmjfjnhmiaa.Pr
open Go.RowKit Go.Proofs.YtmgbbmjfjnhmiaaW.PrintWords Go.Proofs.YtmgbbmjfjnhmiaaW.PrintLast Go.Proofs.YtmgbbmjfjnhmiaaW.PrintMore
def pieceL (a b : List ByteArray) (i k p q : Nat) : List S40 := if i < p ∨ k < q then [⟨(i : Int), (a.take p).drop i, (b.take q).drop k⟩] else []
def diffL (a b : List ByteArray) : Nat → Nat → List (Nat × Nat) → List S40
 | i, k, [] => pieceL a b i k a.length b.length
 | i, k, p :: m => pieceL a b i k p.1 p.2 ++ diffL a b (p.1 + 1) (p.2 + 1) m
theorem diffL_nil (a b : List ByteArray) (i k : Nat) : diffL a b i k [] = pieceL a b i k a.length b.length := rfl
theorem diffL_cons (a b : List ByteArray) (i k : Nat) (p : Nat × Nat) (m : List (Nat × Nat)) : diffL a b i k (p :: m) = pieceL a b i k p.1 p.2 ++ diffL a b (p.1 + 1) (p.2 + 1) m := rfl
theorem pieceL_pos {a b : List ByteArray} {i k p q : Nat} (h : i < p ∨ k < q) : pieceL a b i k p q = [⟨(i : Int), (a.take p).drop i, (b.take q).drop k⟩] := if_pos h
theorem pieceL_neg {a b : List ByteArray} {i k p q : Nat} (h : ¬ (i < p ∨ k < q)) : pieceL a b i k p q = [] := if_neg h
theorem seg_join (a : List ByteArray) {x y z : Nat} (hxy : x ≤ y) (hyz : y ≤ z) : (a.take y).drop x ++ (a.take z).drop y = (a.take z).drop x := by
 rw [List.drop_take, List.drop_take, List.drop_take]
 rw [show z - x = (y - x) + (z - y) by omega, List.take_add]
 congr 1
 rw [List.drop_drop]
 congr 2
 omega
theorem take_one_drop (a : List ByteArray) (p : Nat) (h : p < a.length) : (a.take (p + 1)).drop p = [a[p]] := by
 rw [List.drop_take, show p + 1 - p = 1 by omega, List.drop_eq_getElem_cons h]
 rfl
end Go.Proofs.Ytmgbbmjfjnhmiaa.Pr
end
section
namespace Go.Proofs.Ytmgbbmjfjnhmiaa.Pr
open Go.RowKit Go.Proofs.YtmgbbmjfjnhmiaaW.PrintWords Go.Proofs.YtmgbbmjfjnhmiaaW.PrintLast Go.Proofs.YtmgbbmjfjnhmiaaW.PrintMore
theorem both_ev (a b : List ByteArray) (ha : tiny a) (hb : tiny b) : Ev (fun k => sidingref14_Both.f k a b) (bothErr a b) := by
 unfold sidingref14_Both.f bothErr
 refine Ev.bd (rlines_ev a ha) ?_
 by_cases h : linesErr a = 0
 ·rw [if_pos h]
  exact Ev.pos h (Ev.bd (rlines_ev b hb) (Ev.now _))
 ·exact Ev.neg h (Ev.bd (rlines_ev a ha) (Ev.rt (if_neg h).symm))
end Go.Proofs.Ytmgbbmjfjnhmiaa.Pr
end
section
namespace Go.Proofs.Ytmgbbmjfjnhmiaa.Pr
open Go.RowKit Go.Proofs.YtmgbbmjfjnhmiaaW.PrintWords Go.Proofs.YtmgbbmjfjnhmiaaW.PrintLast Go.Proofs.YtmgbbmjfjnhmiaaW.PrintMore
theorem found_val (a b : List ByteArray) (ha : a.length ≤ 60) (hb : b.length ≤ 60) : ref14_Found.f a b = some ((bestOf a b).map prOf) := by
 unfold ref14_Found.f
 rw [if_pos (by rw [decide_eq_true ha, decide_eq_true hb]; rfl), bestOf_gOf]
 rfl
theorem best_le (a b : List ByteArray) : (bestOf a b).length ≤ a.length := by
 rw [bestOf_length]
 exact lcsLen_le_left a b
end Go.Proofs.Ytmgbbmjfjnhmiaa.Pr
end
section
namespace Go.Proofs.Ytmgbbmjfjnhmiaa.Pr
open Go.RowKit Go.Proofs.YtmgbbmjfjnhmiaaW.PrintWords Go.Proofs.YtmgbbmjfjnhmiaaW.PrintLast Go.Proofs.YtmgbbmjfjnhmiaaW.PrintMore
theorem rbest_ev (a b : List ByteArray) (ha : tiny a) (hb : tiny b) : Ev (fun k => sidingref14_Best.f k a b) (if bothErr a b = 0 then ((bestOf a b).map prOf, (0 : Int)) else (([] : List S45), bothErr a b)) := by
 unfold sidingref14_Best.f
 refine Ev.bd (both_ev a b ha hb) ?_
 by_cases h : bothErr a b = 0
 ·rw [if_pos h]
  obtain ⟨h1, h2⟩ := bothErr_zero.1 h
  obtain ⟨l1, _⟩ := linesErr_zero h1
  obtain ⟨l2, _⟩ := linesErr_zero h2
  have hl := best_le a b
  refine Ev.pos h (Ev.bs (Ev.bc (found_val a b l1 l2) (Ev.pos (by simp; omega) (Ev.rt ?_))))
  rw [List.nil_append]
 ·rw [if_neg h]
  exact Ev.neg h (Ev.bd (both_ev a b ha hb) (Ev.bs (Ev.now _)))
end Go.Proofs.Ytmgbbmjfjnhmiaa.Pr
end
section
namespace Go.Proofs.Ytmgbbmjfjnhmiaa.Pr
open Go.RowKit Go.Proofs.YtmgbbmjfjnhmiaaW.PrintWords Go.Proofs.YtmgbbmjfjnhmiaaW.PrintLast Go.Proofs.YtmgbbmjfjnhmiaaW.PrintMore
theorem seg_snoc (a : List ByteArray) {x y : Nat} (hxy : x ≤ y) (hy : y < a.length) : (a.take y).drop x ++ [a.getD y ByteArray.empty] = (a.take (y + 1)).drop x := by
 rw [← seg_join a hxy (Nat.le_succ y), take_one_drop a y hy, List.getD_eq_getElem?_getD, List.getElem?_eq_getElem hy]
 rfl
theorem seg_self (a : List ByteArray) (x : Nat) : (a.take x).drop x = [] := List.drop_eq_nil_of_le (by rw [List.length_take]; omega)
theorem rdiff_piece (a b : List ByteArray) (M : List S45) (p P Q i0 k0 : Nat) (hP : P ≤ a.length) (hQ : Q ≤ b.length) (hM : M[p]? = none ∧ P = a.length ∧ Q = b.length ∨ M[p]? = some (prOf (P, Q))) (out : List S40) :
  ∀ (d n i k : Nat) (cur : Option S40), (P - i) + (Q - k) = d → i0 ≤ i → i ≤ P → k0 ≤ k → k ≤ Q → (i < P → k = k0) → cur.getD ⟨i, [], []⟩ = ⟨(i0 : Int), (a.take i).drop i0, (b.take k).drop k0⟩ →
   ∃ cur', rdiff a b M (n + d) i k p out cur = rdiff a b M n P Q p out cur' ∧ cur'.toList = (if 0 < d then [⟨(i0 : Int), (a.take P).drop i0, (b.take Q).drop k0⟩] else cur.toList) := by
 intro d
 induction d with
 | zero =>
  intro n i k cur hd h1 h2 h3 h4 h5 h6
  obtain rfl : i = P := by omega
  obtain rfl : k = Q := by omega
  exact ⟨cur, rfl, rfl⟩
 | succ d ih =>
  intro n i k cur hd h1 h2 h3 h4 h5 h6
  have hmore : i < a.length ∨ k < b.length := by omega
  have hhit : rdiff.hit M i k p = false := by
   unfold rdiff.hit
   rcases hM with ⟨hM, _⟩ | hM
   ·rw [hM]
   ·rw [hM]
    show (decide ((P : Int) = (i : Int)) && decide ((Q : Int) = (k : Int))) = false
    simp only [Bool.and_eq_false_iff, decide_eq_false_iff_not]
    omega
  have hold : rdiff.old a M i p = decide (i < P) := by
   unfold rdiff.old
   rcases hM with ⟨hM, e1, e2⟩ | hM
   ·rw [hM, e1, Bool.and_true]
   ·rw [hM]
    show (decide (i < a.length) && decide ((i : Int) < (P : Int))) = decide (i < P)
    rw [Bool.eq_iff_iff]
    simp only [Bool.and_eq_true, decide_eq_true_eq]
    omega
  rw [show n + (d + 1) = (n + d) + 1 by omega, rdiff, if_pos hmore, hhit, if_neg Bool.false_ne_true, h6, hold]
  by_cases hi : i < P
  ·rw [decide_eq_true hi, if_pos rfl]
   obtain rfl := h5 hi
   have hc := ih n (i + 1) k (some ⟨(i0 : Int), (a.take i).drop i0 ++ [a.getD i ByteArray.empty], (b.take k).drop k⟩) (by omega) (by omega) (by omega) h3 h4 (fun _ => rfl) (by rw [seg_snoc a h1 (by omega)]; rfl)
   obtain ⟨cur', e1, e2⟩ := hc
   refine ⟨cur', e1, ?_⟩
   rw [if_pos (by omega), e2]
   split
   ·rfl
   ·rename_i hd0
    have e3 : P = i + 1 := by omega
    have e4 : Q = k := by omega
    subst e3 e4
    rw [seg_snoc a h1 (by omega)]
    rfl
  ·rw [decide_eq_false hi, if_neg Bool.false_ne_true, if_pos (by omega)]
   obtain rfl : i = P := by omega
   have hc := ih n i (k + 1) (some ⟨(i0 : Int), (a.take i).drop i0, (b.take k).drop k0 ++ [b.getD k ByteArray.empty]⟩) (by omega) h1 (Nat.le_refl _) (by omega) (by omega) (fun h => by omega) (by rw [seg_snoc b h3 (by omega)]; rfl)
   obtain ⟨cur', e1, e2⟩ := hc
   refine ⟨cur', e1, ?_⟩
   rw [if_pos (by omega), e2]
   split
   ·rfl
   ·rename_i hd0
    have e4 : Q = k + 1 := by omega
    subst e4
    rw [seg_snoc b h3 (by omega)]
    rfl
theorem rdiff_all (a b : List ByteArray) (M : List S45) : ∀ (m : List (Nat × Nat)) (n i k p : Nat) (out : List S40), Match a b i k m → i ≤ a.length → k ≤ b.length → M.drop p = m.map prOf → (a.length - i) + (b.length - k) < n →
  rdiff a b M n i k p out none = some (out ++ diffL a b i k m) := by
 intro m
 induction m with
 | nil =>
  intro n i k p out hm hi hk hM hn
  have hMp : M[p]? = none := by
   rw [List.getElem?_eq_none_iff]
   have := congrArg List.length hM
   rw [List.length_drop] at this
   simp at this
   omega
  obtain ⟨n', rfl⟩ : ∃ n', n = (n' + 1) + ((a.length - i) + (b.length - k)) := ⟨n - 1 - ((a.length - i) + (b.length - k)), by omega⟩
  obtain ⟨cur', e1, e2⟩ := rdiff_piece a b M p a.length b.length i k (Nat.le_refl _) (Nat.le_refl _) (.inl ⟨hMp, rfl, rfl⟩) out _ (n' + 1) i k none rfl (Nat.le_refl _) hi (Nat.le_refl _) hk (fun _ => rfl) (by rw [seg_self, seg_self]; rfl)
  rw [e1, rdiff, if_neg (by omega), e2, diffL_nil]
  congr 2
  by_cases h : i < a.length ∨ k < b.length
  ·rw [pieceL_pos h, if_pos (by omega)]
  ·rw [pieceL_neg h, if_neg (by omega)]
   rfl
 | cons q m ih =>
  intro n i k p out hm hi hk hM hn
  cases hm with
  | cons _ _ _ _ h1 h2 h3 h4 he hm =>
   have hMp : M[p]? = some (prOf (q.1, q.2)) := by
    have h := congrArg (fun l => l[0]?) hM
    simpa using h
   have hMs : M.drop (p + 1) = m.map prOf := by
    rw [← List.drop_drop, hM]
    rfl
   obtain ⟨n', rfl⟩ : ∃ n', n = (n' + 1) + ((q.1 - i) + (q.2 - k)) := ⟨n - 1 - ((q.1 - i) + (q.2 - k)), by omega⟩
   obtain ⟨cur', e1, e2⟩ := rdiff_piece a b M p q.1 q.2 i k (by omega) (by omega) (.inr hMp) out _ (n' + 1) i k none rfl (Nat.le_refl _) h1 (Nat.le_refl _) h2 (fun _ => rfl) (by rw [seg_self, seg_self]; rfl)
   have hhit : rdiff.hit M q.1 q.2 p = true := by
    unfold rdiff.hit
    rw [hMp]
    simp [prOf]
   rw [e1, rdiff, if_pos (by omega), hhit, if_pos rfl, ih n' (q.1 + 1) (q.2 + 1) (p + 1) _ hm (by omega) (by omega) hMs (by omega), e2, diffL_cons, List.append_assoc]
   congr 3
   by_cases h : i < q.1 ∨ k < q.2
   ·rw [pieceL_pos h, if_pos (by omega)]
   ·rw [pieceL_neg h, if_neg (by omega)]
    rfl
theorem rdiff_ev (a b : List ByteArray) (ha : tiny a) (hb : tiny b) : Ev (fun k => ref15_Diff.f k a b) (if bothErr a b = 0 then (diffL a b 0 0 (bestOf a b), (0 : Int)) else (([] : List S40), bothErr a b)) := by
 unfold ref15_Diff.f
 refine Ev.bd (rbest_ev a b ha hb) (Ev.ke ?_)
 unfold ref15_Diff.g
 by_cases h : bothErr a b = 0
 ·rw [if_pos h, if_pos h]
  have hz := bothErr_zero.1 h
  have l0 := (linesErr_zero hz.1).1
  have l1 := (linesErr_zero hz.2).1
  have l2 := best_le a b
  rw [if_pos rfl, if_pos ⟨by omega, by omega, by rw [List.length_map]; omega⟩]
  rw [rdiff_all a b _ (bestOf a b) _ 0 0 0 [] (bestOf_greedy a b).match (Nat.zero_le _) (Nat.zero_le _) (by rw [List.drop_zero]) (by omega)]
  rfl
 ·rw [if_neg h, if_neg h, if_neg h]
end Go.Proofs.Ytmgbbmjfjnhmiaa.Pr
end
section
namespace Go.Proofs.Ytmgbbmjfjnhmiaa.Pr
open Go.RowKit Go.Proofs.YtmgbbmjfjnhmiaaW.PrintWords Go.Proofs.YtmgbbmjfjnhmiaaW.PrintLast Go.Proofs.YtmgbbmjfjnhmiaaW.PrintMore
theorem linesErr_len {a : List ByteArray} (h : linesErr a = 0) : a.length ≤ 60 := by
 unfold linesErr at h
 split at h
 ·cases h
 ·omega
theorem clone_val (l : List ByteArray) (h : l.length ≤ 1000000) : slices_Clone.f l = some l := by
 unfold slices_Clone.f
 rw [if_pos (by omega)]
theorem rd_m (m : List S45) (i : Nat) (h : i < m.length) : rd_T45 m (i : Int) = m[i] := by simp [rd_T45, h]
theorem diff_step (a b : List ByteArray) (ha : a.length ≤ 60) (hb : b.length ≤ 60) (M : List S45) (hM : M.length ≤ 1000) (out : List S40) (ho : out.length ≤ 1000) (i k j : Nat) (hj : j < M.length) (p q : Nat) (hpq : M[j] = prOf (p, q)) (h1 : i ≤ p) (h2 : k ≤ q) (h3 : p ≤ a.length) (h4 : q ≤ b.length) (r : List S40 × Int)
  (hr : Ev (fun n => hunk_Diff.l0 n a b (out ++ pieceL a b i k p q) ((p + 1 : Nat) : Int) ((q + 1 : Nat) : Int) M (M.length : Int) ((j + 1 : Nat) : Int)) r) :
  Ev (fun n => hunk_Diff.l0 n a b out (i : Int) (k : Int) M (M.length : Int) (j : Int)) r := by
 have n1 : slices_Clone.f ((a.take p).drop i) = some ((a.take p).drop i) := clone_val _ (by rw [List.length_drop, List.length_take]; omega)
 have n2 : slices_Clone.f ((b.take q).drop k) = some ((b.take q).drop k) := clone_val _ (by rw [List.length_drop, List.length_take]; omega)
 have E1 := Aside0.mk (show wrap64 ((p : Int) + 1) = ((p + 1 : Nat) : Int) by rw [w64 (by omega)]; omega)
 have E2 := Aside0.mk (show wrap64 ((q : Int) + 1) = ((q + 1 : Nat) : Int) by rw [w64 (by omega)]; omega)
 have E3 := Aside0.mk (show wrap64 ((j : Int) + 1) = ((j + 1 : Nat) : Int) by rw [w64 (by omega)]; omega)
 have make : (i < p ∨ k < q) → Ev (fun n => hunk_Diff.j1 n a b out (i : Int) (k : Int) M (M.length : Int) (j : Int) true (p : Int) (q : Int)) r := by
  intro hpc
  have hp : pieceL a b i k p q = [⟨(i : Int), (a.take p).drop i, (b.take q).drop k⟩] := if_pos hpc
  rw [hp] at hr
  refine Ev.step (fun n => by rw [hunk_Diff.j1]) ?_
  rw [E1.out, E2.out, E3.out]
  simp only [Int.toNat_natCast]
  rw [n1, n2]
  refine Ev.pos trivial ?_
  refine Ev.pos (by first | trivial | omega) ?_
  refine Ev.pos (by first | trivial | omega) ?_
  refine Ev.pos (by first | trivial | omega) ?_
  refine Ev.bs ?_
  refine Ev.pos (by first | trivial | omega) ?_
  refine Ev.pos (by first | trivial | omega) ?_
  refine Ev.pos (by first | trivial | omega) ?_
  refine Ev.bs ?_
  refine Ev.pos (by first | trivial | omega) ?_
  exact hr
 refine Ev.step (fun n => by rw [hunk_Diff.l0]) ?_
 refine Ev.pos (by omega) (Ev.pos (by omega) (Ev.pos (by omega) ?_))
 rw [rd_m _ _ hj, hpq]
 show Ev (fun n => if (p : Int) > (i : Int) then hunk_Diff.j1 n a b out (i : Int) (k : Int) M (M.length : Int) (j : Int) true (p : Int) (q : Int) else hunk_Diff.j1 n a b out (i : Int) (k : Int) M (M.length : Int) (j : Int) (decide ((q : Int) > (k : Int))) (p : Int) (q : Int)) r
 by_cases c1 : i < p
 ·exact Ev.pos (by omega) (make (.inl c1))
 ·refine Ev.neg (by omega) ?_
  by_cases c2 : k < q
  ·rw [decide_eq_true (show (q : Int) > (k : Int) by omega)]
   exact make (.inr c2)
  ·rw [decide_eq_false (show ¬ (q : Int) > (k : Int) by omega)]
   have hp : pieceL a b i k p q = [] := if_neg (by omega)
   rw [hp, List.append_nil] at hr
   refine Ev.step (fun n => by rw [hunk_Diff.j1]) ?_
   refine Ev.neg (by decide) ?_
   rw [E1.out, E2.out, E3.out]
   exact hr
theorem pieceL_len (a b : List ByteArray) (i k p q : Nat) : (pieceL a b i k p q).length ≤ 1 := by
 unfold pieceL
 split <;> simp
theorem diff_loop (a b : List ByteArray) (ha : a.length ≤ 60) (hb : b.length ≤ 60) (M : List S45) (hM : M.length ≤ 1000) : ∀ (m : List (Nat × Nat)) (i k j : Nat) (out : List S40), Match a b i k m → i ≤ a.length → k ≤ b.length → M.drop j = (m ++ [(a.length, b.length)]).map prOf → out.length ≤ j →
  Ev (fun n => hunk_Diff.l0 n a b out (i : Int) (k : Int) M (M.length : Int) (j : Int)) (out ++ diffL a b i k m, 0) := by
 intro m
 induction m with
 | nil =>
  intro i k j out hm hi hk hd ho
  have hj : j < M.length := by
   apply Classical.byContradiction
   intro hn
   rw [List.drop_eq_nil_of_le (by omega)] at hd
   cases hd
  have hpq : M[j] = prOf (a.length, b.length) := by
   rw [drop_at M j hj] at hd
   exact (List.cons.inj hd).1
  have hlast : M.length = j + 1 := by
   have := congrArg List.length hd
   rw [List.length_drop] at this
   simp at this
   omega
  refine diff_step a b ha hb M hM out (by omega) i k j hj a.length b.length hpq hi hk (Nat.le_refl _) (Nat.le_refl _) _ ?_
  refine Ev.step (fun n => by rw [hunk_Diff.l0]) ?_
  exact Ev.neg (by omega) (Ev.rt rfl)
 | cons p m ih =>
  intro i k j out hm hi hk hd ho
  cases hm with
  | cons _ _ _ _ h1 h2 h3 h4 he hm =>
   have hj : j < M.length := by
    apply Classical.byContradiction
    intro hn
    rw [List.drop_eq_nil_of_le (by omega)] at hd
    cases hd
   rw [drop_at M j hj] at hd
   have hpq : M[j] = prOf p := (List.cons.inj hd).1
   have hd' : M.drop (j + 1) = (m ++ [(a.length, b.length)]).map prOf := (List.cons.inj hd).2
   refine diff_step a b ha hb M hM out (by omega) i k j hj p.1 p.2 hpq h1 h2 (by omega) (by omega) _ ?_
   have hpl := pieceL_len a b i k p.1 p.2
   have := ih (p.1 + 1) (p.2 + 1) (j + 1) (out ++ pieceL a b i k p.1 p.2) hm (by omega) (by omega) hd' (by rw [List.length_append]; omega)
   rw [List.append_assoc] at this
   exact this
theorem diff_ev (a b : List ByteArray) (ha : small a) (hb : small b) : Ev (fun n => hunk_Diff.f n a b) (if bothErr a b = 0 then (diffL a b 0 0 (bestOf a b), (0 : Int)) else (([] : List S40), bothErr a b)) := by
 unfold hunk_Diff.f
 refine Ev.bd (best_ev a b ha hb) ?_
 by_cases h : bothErr a b = 0
 ·obtain ⟨h1, h2⟩ := bothErr_zero.1 h
  have l1 := linesErr_len h1
  have l2 := linesErr_len h2
  have hbl := bestOf_length a b
  have hl2 := lcsLen_le_left a b
  rw [if_pos h, if_pos h]
  refine Ev.pos rfl (Ev.pos (by simp; omega) (Ev.bs ?_))
  have e : (bestOf a b).map prOf ++ [(⟨(a.length : Int), (b.length : Int)⟩ : S45)] = (bestOf a b ++ [(a.length, b.length)]).map prOf := by simp [prOf]
  dsimp only
  rw [e]
  have := diff_loop a b l1 l2 ((bestOf a b ++ [(a.length, b.length)]).map prOf) (by simp; omega) (bestOf a b) 0 0 0 [] (bestOf_greedy a b).match (Nat.zero_le _) (Nat.zero_le _) rfl (by simp)
  simpa using this
 ·rw [if_neg h, if_neg h]
  exact Ev.neg h (Ev.now _)
theorem diff_count (a b : List ByteArray) : ∀ (m : List (Nat × Nat)) (i k : Nat), Match a b i k m → i ≤ a.length → k ≤ b.length → 3 * (diffL a b i k m).length ≤ (a.length - i) + (b.length - k) + 2
 | [], i, k, _, hi, hk => by
  unfold diffL pieceL
  split
  ·simp; omega
  ·simp
 | p :: m, i, k, hm, hi, hk => by
  cases hm with
  | cons _ _ _ _ h1 h2 h3 h4 he hm =>
   have ih := diff_count a b m (p.1 + 1) (p.2 + 1) hm (by omega) (by omega)
   unfold diffL
   rw [List.length_append]
   unfold pieceL
   split
   ·simp only [List.length_cons, List.length_nil]; omega
   ·simp only [List.length_nil]; omega
theorem le_sum : ∀ {l : List Nat} {x : Nat}, x ∈ l → x ≤ l.sum
 | [], _, h => by cases h
 | y :: l, x, h => by
  rw [List.sum_cons]
  rcases List.mem_cons.1 h with rfl | h
  ·omega
  ·have := le_sum h
   omega
theorem linesErr_plain {a : List ByteArray} (h : linesErr a = 0) : ∀ s ∈ a, widey s = false := by
 have h0 := h
 unfold linesErr at h
 split at h
 ·cases h
 ·split at h
  ·cases h
  ·rename_i h2
   split at h
   ·cases h
   ·split at h
    ·cases h
    ·rename_i h4
     intro s hs
     have hb : s.size ≤ bytesIn a := by
      unfold bytesIn
      have : s.size ∈ a.map (·.size) := List.mem_map.2 ⟨s, hs, rfl⟩
      exact le_sum this
     have hl : 0 < a.length := List.length_pos_of_mem hs
     unfold widey
     rw [Bool.or_eq_false_iff]
     refine ⟨by simp; omega, ?_⟩
     have h5 : a.any feedy = false := by simpa using h4
     rw [List.any_eq_false] at h5
     simpa using h5 s hs
theorem plain_seg {a : List ByteArray} (h : linesErr a = 0) (i p : Nat) : plainL ((a.take p).drop i) = true := by
 unfold plainL
 rw [Bool.and_eq_true, decide_eq_true_eq]
 refine ⟨by rw [List.length_drop, List.length_take]; have := linesErr_len h; omega, ?_⟩
 simp only [Bool.not_eq_true', List.any_eq_false]
 intro s hs
 rw [linesErr_plain h s (List.mem_of_mem_take (List.mem_of_mem_drop hs))]
 decide
theorem piece_valid {a b : List ByteArray} (ha : linesErr a = 0) (hb : linesErr b = 0) {i k p q : Nat} (h1 : i ≤ p) (h2 : k ≤ q) (h3 : p ≤ a.length) (h4 : q ≤ b.length) (h : i < p ∨ k < q) : validH (⟨(i : Int), (a.take p).drop i, (b.take q).drop k⟩ : S40) = true := by
 have l1 := linesErr_len ha
 have l2 := linesErr_len hb
 simp only [validH, Bool.and_eq_true, decide_eq_true_eq]
 refine ⟨⟨⟨⟨by omega, by omega⟩, plain_seg ha _ _⟩, plain_seg hb _ _⟩, ?_⟩
 rw [List.length_drop, List.length_take, List.length_drop, List.length_take]
 omega
theorem diff_chk {a b : List ByteArray} (ha : linesErr a = 0) (hb : linesErr b = 0) : ∀ (m : List (Nat × Nat)) (i k : Nat) (free : Int), Match a b i k m → i ≤ a.length → k ≤ b.length → free ≤ (i : Int) → chkFrom free (diffL a b i k m) = 0
 | [], i, k, free, _, hi, hk, hf => by
  unfold diffL pieceL
  split
  ·rename_i h
   unfold chkFrom
   rw [if_pos (piece_valid ha hb hi hk (Nat.le_refl _) (Nat.le_refl _) h), if_neg (by show ¬ ((i : Int) < free); omega)]
   rfl
  ·rfl
 | p :: m, i, k, free, hm, hi, hk, hf => by
  cases hm with
  | cons _ _ _ _ h1 h2 h3 h4 he hm =>
   unfold diffL pieceL
   split
   ·rename_i h
    rw [List.singleton_append]
    unfold chkFrom
    rw [if_pos (piece_valid ha hb h1 h2 (by omega) (by omega) h), if_neg (by show ¬ ((i : Int) < free); omega)]
    refine diff_chk ha hb m (p.1 + 1) (p.2 + 1) _ hm (by omega) (by omega) ?_
    show (i : Int) + (((a.take p.1).drop i).length : Int) + 1 ≤ _
    rw [List.length_drop, List.length_take]
    omega
   ·rw [List.nil_append]
    exact diff_chk ha hb m (p.1 + 1) (p.2 + 1) _ hm (by omega) (by omega) (by omega)
theorem diff_check {a b : List ByteArray} (h : bothErr a b = 0) : checkL (diffL a b 0 0 (bestOf a b)) = 0 := by
 obtain ⟨h1, h2⟩ := bothErr_zero.1 h
 have l1 := linesErr_len h1
 have l2 := linesErr_len h2
 have hm := (bestOf_greedy a b).match
 have hc := diff_count a b _ 0 0 hm (Nat.zero_le _) (Nat.zero_le _)
 unfold checkL
 rw [if_neg (by omega)]
 exact diff_chk h1 h2 _ 0 0 0 hm (Nat.zero_le _) (Nat.zero_le _) (by simp)
end Go.Proofs.Ytmgbbmjfjnhmiaa.Pr
end
section
namespace Go.Proofs.Ytmgbbmjfjnhmiaa.Pr
open Go.RowKit Go.Proofs.YtmgbbmjfjnhmiaaW.PrintWords Go.Proofs.YtmgbbmjfjnhmiaaW.PrintLast Go.Proofs.YtmgbbmjfjnhmiaaW.PrintMore
theorem hsame_loop (a b : List S40) (hab : a.length = b.length) (hl : a.length ≤ 1000000) (ht : ∀ h ∈ a, h.f1.length ≤ 1000000000 ∧ h.f2.length ≤ 1000000000) : ∀ (d i : Nat), i + d = a.length →
  Ev (fun k => sidingref15_Same.l0 k a b (i : Int)) (decide (a.drop i = b.drop i)) := by
 intro d
 induction d with
 | zero =>
  intro i hi
  refine Ev.step (fun k => by rw [sidingref15_Same.l0]) ?_
  refine Ev.neg (by omega) (Ev.rt ?_)
  rw [List.drop_eq_nil_of_le (by omega), List.drop_eq_nil_of_le (by omega)]
  simp
 | succ d ih =>
  intro i hi
  have h : i < a.length := by omega
  have hb : i < b.length := by omega
  obtain ⟨t1, t2⟩ := ht _ (List.getElem_mem h)
  refine Ev.step (fun k => by rw [sidingref15_Same.l0]) ?_
  refine Ev.pos (by omega) (Ev.pos (by omega) (Ev.pos (by omega) ?_))
  rw [rd_h _ _ h, rd_h _ _ hb, drop_at a i h, drop_at b i hb]
  have key : ∀ (x y : S40), x = y ↔ x.f0 = y.f0 ∧ x.f1 = y.f1 ∧ x.f2 = y.f2 := by
   rintro ⟨x0, x1, x2⟩ ⟨y0, y1, y2⟩
   simp
  by_cases h0 : a[i].f0 = b[i].f0
  ·refine Ev.pos h0 (Ev.bd (same_ev _ _ (by omega)) ?_)
   by_cases h1 : a[i].f1 = b[i].f1
   ·rw [decide_eq_true h1]
    refine Ev.pos rfl (Ev.bd (same_ev _ _ (by omega)) ?_)
    by_cases h2 : a[i].f2 = b[i].f2
    ·rw [decide_eq_true h2]
     refine Ev.pos rfl ?_
     rw [w64 (by omega)]
     refine Ev.eq ?_ (ih (i + 1) (by omega))
     have e0 := (key _ _).2 ⟨h0, h1, h2⟩
     rw [Bool.eq_iff_iff, decide_eq_true_iff, decide_eq_true_iff]
     constructor
     ·intro e; rw [e0, e]
     ·intro e; exact (List.cons.inj e).2
    ·rw [decide_eq_false h2]
     refine Ev.neg (by decide) (Ev.rt ?_)
     rw [decide_eq_false]
     intro e
     exact h2 ((key _ _).1 (List.cons.inj e).1).2.2
   ·rw [decide_eq_false h1]
    refine Ev.neg (by decide) (Ev.rt ?_)
    rw [decide_eq_false]
    intro e
    exact h1 ((key _ _).1 (List.cons.inj e).1).2.1
  ·refine Ev.neg h0 (Ev.rt ?_)
   rw [decide_eq_false]
   intro e
   exact h0 ((key _ _).1 (List.cons.inj e).1).1
theorem hsame_ev (a b : List S40) (hl : a.length ≤ 1000000) (ht : ∀ h ∈ a, h.f1.length ≤ 1000000000 ∧ h.f2.length ≤ 1000000000) : Ev (fun k => sidingref15_Same.f k a b) (decide (a = b)) := by
 unfold sidingref15_Same.f
 by_cases h : a.length = b.length
 ·have := hsame_loop a b h hl ht a.length 0 (by omega)
  rw [List.drop_zero, List.drop_zero] at this
  exact Ev.pos (by omega) this
 ·refine Ev.neg (by omega) (Ev.rt ?_)
  rw [decide_eq_false]
  intro e
  exact h (by rw [e])
end Go.Proofs.Ytmgbbmjfjnhmiaa.Pr
end
section
namespace Go.Proofs.Ytmgbbmjfjnhmiaa.Pr
open Go.RowKit Go.Proofs.YtmgbbmjfjnhmiaaW.PrintWords Go.Proofs.YtmgbbmjfjnhmiaaW.PrintLast Go.Proofs.YtmgbbmjfjnhmiaaW.PrintMore
theorem twin_loop (l : List S40) (hl : l.length ≤ 1000000) (ht : ∀ h ∈ l, h.f1.length ≤ 1000000000 ∧ h.f2.length ≤ 1000000000) : ∀ (d i : Nat), i + d = l.length →
  Ev (fun k => sidingref15_Twin.l0 k l (l.take i) (i : Int)) l := by
 intro d
 induction d with
 | zero =>
  intro i hi
  refine Ev.step (fun k => by rw [sidingref15_Twin.l0]) ?_
  refine Ev.neg (by omega) (Ev.rt ?_)
  exact List.take_of_length_le (by omega)
 | succ d ih =>
  intro i hi
  have h : i < l.length := by omega
  obtain ⟨t1, t2⟩ := ht _ (List.getElem_mem h)
  refine Ev.step (fun k => by rw [sidingref15_Twin.l0]) ?_
  refine Ev.pos (by omega) (Ev.pos (by omega) (Ev.bs ?_))
  rw [rd_h _ _ h]
  refine Ev.pos (by simp; omega) (Ev.bs (Ev.pos (by simp; omega) (Ev.pos (by rw [List.length_take]; omega) ?_)))
  rw [w64 (by omega)]
  rw [show l.take i ++ [(⟨l[i].f0, ([] : List ByteArray) ++ l[i].f1, ([] : List ByteArray) ++ l[i].f2⟩ : S40)] = l.take (i + 1) from (take_succ_at l i h).symm]
  exact ih (i + 1) (by omega)
theorem twin_ev (l : List S40) (hl : l.length ≤ 1000000) (ht : ∀ h ∈ l, h.f1.length ≤ 1000000000 ∧ h.f2.length ≤ 1000000000) : Ev (fun k => sidingref15_Twin.f k l) l := twin_loop l hl ht l.length 0 (by omega)
end Go.Proofs.Ytmgbbmjfjnhmiaa.Pr
end
section
namespace Go.Proofs.Ytmgbbmjfjnhmiaa.Pure
open Go Go.RowKit Go.Proofs.Ytmgbbmjfjnhmiaa.Pr Go.Proofs.YtmgbbmjfjnhmiaaW.PrintWords Go.Proofs.YtmgbbmjfjnhmiaaW.PrintLast Go.Proofs.YtmgbbmjfjnhmiaaW.PrintMore
theorem grp_len (a : List ByteArray) (n : Int) (ha : a.length ≤ 1000) : ∀ (t : List S40) (fr e : Int) (N : List ByteArray), (∀ h ∈ t, h.f2.length ≤ 1000) → N.length + 2000 * t.length ≤ 10000000 → (grp a n fr N e t).length ≤ t.length + 1 ∧ ∀ h ∈ grp a n fr N e t, h.f1.length ≤ 1000000000 ∧ h.f2.length ≤ 1000000000 := by
 intro t
 induction t with
 | nil =>
  intro fr e N _ hN
  have l1 := cut_len a fr (min (a.length : Int) (e + n))
  have l2 := cut_len a e (min (a.length : Int) (e + n))
  refine ⟨Nat.le_refl _, fun h hh => ?_⟩
  rcases List.mem_singleton.1 hh with rfl
  refine ⟨by show (widen.cut a fr _).length ≤ _; omega, by show (N ++ widen.cut a e _).length ≤ _; rw [List.length_append]; omega⟩
 | cons x t ih =>
  intro fr e N hv hN
  have hx := hv x List.mem_cons_self
  have hv' : ∀ h ∈ t, h.f2.length ≤ 1000 := fun h hh => hv h (List.mem_cons_of_mem _ hh)
  rw [List.length_cons] at hN
  have l1 := cut_len a fr (min (a.length : Int) (e + n))
  have l2 := cut_len a e (min (a.length : Int) (e + n))
  have l3 := cut_len a e x.f0
  have l4 := cut_len a (max 0 (x.f0 - n)) x.f0
  by_cases hm : 0 < n ∧ x.f0 - n ≤ e + n
  ·rw [show grp a n fr N e (x :: t) = grp a n fr (N ++ widen.cut a e x.f0 ++ x.f2) (wend x) t from if_pos hm]
   obtain ⟨i1, i2⟩ := ih fr (wend x) (N ++ widen.cut a e x.f0 ++ x.f2) hv' (by simp only [List.length_append]; omega)
   exact ⟨by rw [List.length_cons]; omega, i2⟩
  ·rw [show grp a n fr N e (x :: t) = _ :: _ from if_neg hm]
   obtain ⟨i1, i2⟩ := ih (max 0 (x.f0 - n)) (wend x) (widen.cut a (max 0 (x.f0 - n)) x.f0 ++ x.f2) hv' (by simp only [List.length_append]; omega)
   refine ⟨by rw [List.length_cons, List.length_cons]; omega, fun h hh => ?_⟩
   rcases List.mem_cons.1 hh with rfl | hh
   ·refine ⟨by show (widen.cut a fr _).length ≤ _; omega, by show (N ++ widen.cut a e _).length ≤ _; rw [List.length_append]; omega⟩
   ·exact i2 h hh
theorem widenV_len {a : List ByteArray} {l : List S40} (n : Int) : (widenV a l n).1.length ≤ 1000000 ∧ ∀ h ∈ (widenV a l n).1, h.f1.length ≤ 1000000000 ∧ h.f2.length ≤ 1000000000 := by
 unfold widenV
 split
 ·rename_i h1
  split
  ·rename_i h2
   split
   ·simp
   ·split
    ·obtain ⟨c1, _⟩ := checkL_zero h2
     have c2 : ∀ x ∈ l, x.f2.length ≤ 1000 := fun x hx => by
      obtain ⟨_, _, _, _, _, u6, _⟩ := validH_true (chk_valid (checkL_zero h2).2 x hx)
      omega
     have ha := linesErr_60 h1
     cases l with
     | nil => exact ⟨by show 0 ≤ _; omega, fun h hh => absurd hh (by show ¬ h ∈ []; simp)⟩
     | cons x t =>
      rw [List.length_cons] at c1
      have l4 := cut_len a (max 0 (x.f0 - n)) x.f0
      have hx := c2 x List.mem_cons_self
      have g := grp_len a n (by omega) t (max 0 (x.f0 - n)) (wend x) (widen.cut a (max 0 (x.f0 - n)) x.f0 ++ x.f2) (fun h hh => c2 h (List.mem_cons_of_mem _ hh)) (by simp only [List.length_append]; omega)
      exact ⟨Nat.le_trans g.1 (by omega), g.2⟩
    ·simp
  ·simp
 ·simp
theorem diffV_len (a b : List ByteArray) : ∀ (e : Int), (if bothErr a b = 0 then (diffL a b 0 0 (bestOf a b), (0 : Int)) else (([] : List S40), e)).1.length ≤ 1000000 ∧ ∀ h ∈ (if bothErr a b = 0 then (diffL a b 0 0 (bestOf a b), (0 : Int)) else (([] : List S40), e)).1, h.f1.length ≤ 1000000000 ∧ h.f2.length ≤ 1000000000 := by
 intro e
 split
 ·rename_i h1
  have h2 := diff_check h1
  obtain ⟨c1, c2⟩ := checkL_zero h2
  refine ⟨by show (diffL a b 0 0 (bestOf a b)).length ≤ _; omega, fun x hx => ?_⟩
  obtain ⟨_, _, _, _, u5, u6, _⟩ := validH_true (chk_valid c2 x hx)
  omega
 ·simp
theorem HunkDiffs : sidinglaw15_HunkDiffs.Pure := by
 intro a b l n wa wb wl wn
 have wl1 : l.length ≤ 9000000000000000000 := by omega
 have wl2 : ∀ h ∈ l, h.f1.length ≤ 9000000000000000000 ∧ h.f2.length ≤ 9000000000000000000 := fun h hh => by
  obtain ⟨_, ⟨h1, _⟩, ⟨h2, _⟩⟩ := wl.2 h hh
  omega
 have hll : ∀ (x : Bool), Ev (fun k => sidinglaw15_HunkDiffs.j0 k a b l n true) true := fun _ => by
  refine Ev.step (fun k => by rw [sidinglaw15_HunkDiffs.j0]) ?_
  exact Ev.pos rfl (Ev.now _)
 have main : Ev (fun k => sidinglaw15_HunkDiffs.f k a b l n) true := by
  unfold sidinglaw15_HunkDiffs.f
  refine Ev.bd (g := fun k => sidinglaw15_long.f k a b) (a := longOf a || longOf b) ?_ ?_
  ·unfold sidinglaw15_long.f
   refine Ev.bd (long_ev a (by omega)) ?_
   cases h1 : longOf a with
   | true => exact Ev.pos rfl (Ev.now _)
   | false => exact Ev.neg (by decide) (Ev.bd (long_ev b (by omega)) (Ev.now _))
  cases h1 : longOf a with
  | true => exact Ev.pos rfl (hll true)
  | false =>
   cases h1b : longOf b with
   | true => exact Ev.pos rfl (hll true)
   | false =>
    refine Ev.neg (by decide) (Ev.bd (hlong_ev l wl1 wl2) ?_)
    cases h2 : hlong l with
    | true => exact hll true
    | false =>
     obtain ⟨la, ta⟩ := longOf_tiny h1
     obtain ⟨lb, tb⟩ := longOf_tiny h1b
     have tl := hlong_tiny h2
     have ll := (hlong_false h2).1
     have tl' : ∀ h ∈ l, h.f1.length ≤ 1000000000 ∧ h.f2.length ≤ 1000000000 := fun h hh => by obtain ⟨_, _, t3, t4⟩ := tl h hh; omega
     have sa : small a := fun s hs => by have := ta s hs; omega
     have sb : small b := fun s hs => by have := tb s hs; omega
     refine Ev.step (fun k => by rw [sidinglaw15_HunkDiffs.j0]) ?_
     refine Ev.neg (by decide) (Ev.bs (Ev.pos (by simp; omega) (Ev.bs ?_)))
     simp only [List.nil_append]
     obtain ⟨d1, d2⟩ := diffV_len a b (bothErr a b)
     obtain ⟨w1, w2⟩ := widenV_len (a := a) (l := l) n
     refine Ev.bd (twin_ev l (by omega) tl') (Ev.bd (diff_ev a b sa sb) (Ev.bd (rdiff_ev a b ta tb) (Ev.bd (widen_ev a l n sa) (Ev.bd (rwiden_ev a l n ta tl) (Ev.bd (hcheck_ev l) (Ev.bd (rcheck_ev l tl) (Ev.pos rfl (Ev.bd (hsame_ev _ _ d1 d2) ?_))))))))
     refine Ev.pos (by simp) (Ev.pos rfl (Ev.bd (hsame_ev _ _ w1 w2) (Ev.pos (by simp) (Ev.pos rfl (Ev.bd (same_ev _ _ (by omega)) (Ev.pos (by simp) (Ev.bd (hsame_ev _ _ (by omega) tl') (Ev.rt (by simp)))))))))
 obtain ⟨k, hk⟩ := main.rounds
 exact ⟨k, hk⟩
end Go.Proofs.Ytmgbbmjfjnhmiaa.Pure
end
section
namespace Go.Proofs.YtmgbbmjfjnhmiaaW.PrintWords
open Go Go.ChangeShapes Go.WideShapes Go.Deep
structure Rdb {α : Type} (P : Program) (t : TypeId) (d : Kd α) (wf : α → Prop) : Prop where
 cells : P.cellsOf t = d.sz
 rd : ∀ {H : Type} {enc : TypeId × Value → H} {w : World} {base : Nat} {spare : Nat → Bool} {held : Bool} {fuel : Nat} {cs : List Value} {x : DataW H × List MemPlace},
  DataW.trod enc P w base spare held fuel t cs = some x → (∀ n ∈ x.1.weights P t, n ≤ 140737488351232) → ∃ v, d.K w v cs ∧ wf v
theorem Rdb.int {P : Program} {t : TypeId} {k : IntKind} (ht : P.underlying t = some (.int k)) (hc : P.cellsOf t = 1) : Rdb P t (Kd.int k) (fun x => (Lit.int k x).wf = true) :=
 ⟨hc, fun h _ => by
  obtain ⟨n, rfl, _, hw⟩ := DataW.trod_int ht h
  exact ⟨n, rfl, hw⟩⟩
theorem Rdb.bool {P : Program} {t : TypeId} (ht : P.underlying t = some .bool) (hc : P.cellsOf t = 1) : Rdb P t Kd.bool (fun _ => True) :=
 ⟨hc, fun h _ => by
  obtain ⟨b, rfl, _⟩ := DataW.trod_bool ht h
  exact ⟨b, rfl, trivial⟩⟩
theorem Rdb.string {P : Program} {t : TypeId} (ht : P.underlying t = some .string) (hc : P.cellsOf t = 1) : Rdb P t Kd.string (fun s => s.size ≤ 140737488351232) :=
 ⟨hc, fun h hz => by
  obtain ⟨s, rfl, rfl, _⟩ := DataW.trod_string ht h
  refine ⟨s, rfl, ?_⟩
  have := hz s.data.toList.length (by simp [DataW.weights])
  rwa [data_length] at this⟩
theorem weightsAll_mem {H : Type} {P : Program} {e : TypeId} {d : DataW H} : ∀ {l : List (DataW H)}, d ∈ l → ∀ n ∈ d.weights P e, n ∈ DataW.weightsAll P e l
 | a :: l, hd, n, hn => by
  rcases List.mem_cons.1 hd with rfl | hd
  ·simp only [DataW.weightsAll, List.mem_append]
   exact .inl hn
  ·simp only [DataW.weightsAll, List.mem_append]
   exact .inr (weightsAll_mem hd n hn)
theorem cells_at {w : World} {base : Nat} {a : Addr} {n : Nat} {cs : List Value} (h : w.cells? base a n = some cs) : cs.length = n ∧ ∀ i u, cs[i]? = some u → w.cell? (a.add i) = some u := by
 unfold World.cells? at h
 split at h
 ·have hl := mapM_some_length h
  rw [List.length_range] at hl
  refine ⟨hl, fun i u hu => ?_⟩
  have hi : i < n := by
   have := (List.getElem?_eq_some_iff.1 hu).1
   omega
  have := mapM_some_get h i i (by simp [hi])
  rw [this, hu]
 ·cases h
theorem Rdb.slice {α : Type} [Inhabited α] {P : Program} {t e : TypeId} {d : Kd α} {wf : α → Prop} {B : Nat} (ht : P.underlying t = some (.slice e)) (hc : P.cellsOf t = 1) (hB : P.bytesOf e = B) (h : Rdb P e d wf) :
  Rdb P t (Kd.slice e d) (fun xs => xs.length * B ≤ 140737488351232 ∧ ∀ x ∈ xs, wf x) :=
 ⟨hc, fun {H enc w base spare held fuel cs x} hx hz => by
  rcases open_slice ht hx with ⟨rfl, _⟩ | ⟨a, len, cap, m, n, D, Pl, rfl, hb, hl, hm, hmm, rfl, hel⟩
  ·exact ⟨[], ⟨none, 0, rfl, Nat.le_refl _, rfl, by simp, fun hp => absurd hp (by simp)⟩, by simp, by simp⟩
  ·have hlm : len ≤ m := by
    rw [hmm]
    split
    ·exact hl
    ·exact Nat.le_refl _
   have hw : ∀ i, i < len → ∀ n ∈ (D i).weights P e, n ≤ 140737488351232 := by
    intro i hi n hn
    apply hz n
    simp only [DataW.weights, ht, List.mem_cons, List.mem_append]
    exact .inr (.inl (weightsAll_mem (List.mem_map.2 ⟨i, List.mem_range.2 hi, rfl⟩) n hn))
   have hlen : len * B ≤ 140737488351232 := by
    have := hz ((((List.range len).map D).length + ((List.range (m - len)).map fun j => D (len + j)).length) * P.bytesOf e) (by simp [DataW.weights, ht])
    rw [hB] at this
    simp only [List.length_map, List.length_range] at this
    exact Nat.le_trans (Nat.mul_le_mul_right _ (by omega)) this
   obtain ⟨V, hV⟩ := choose_lt (α := α) (n := len) (p := fun i v => ∃ c, c.length = d.sz ∧ d.K w v c ∧ (∀ j u, c[j]? = some u → w.cell? (a.add (i * d.sz + j)) = some u) ∧ wf v) (by
    intro i hi
    obtain ⟨cs', h1, h2⟩ := hel i (by omega)
    obtain ⟨v, hK, hwf⟩ := h.rd h2 (hw i hi)
    obtain ⟨_, hcell⟩ := cells_at h1
    refine ⟨v, cs', d.K_len hK, hK, fun j u hu => ?_, hwf⟩
    have := hcell j u hu
    rwa [h.cells, add_add] at this)
   refine ⟨(List.range len).map V, ⟨some a, cap, by simp, by simpa using hl, rfl, by simp; simp only [maxLen] at hm; omega, fun hp => ⟨a, rfl, fun j p hj => ?_⟩⟩, by simpa using hlen, ?_⟩
   ·have hjl : j < len := by
     have := (List.getElem?_eq_some_iff.1 hj).1
     simpa using this
    have : p = V j := by
     simp [hjl] at hj
     exact hj.symm
    subst this
    obtain ⟨c, h1, h2, h3, _⟩ := hV j hjl
    exact ⟨c, h1, h2, h3⟩
   ·intro p hp
    obtain ⟨i, hi, rfl⟩ := List.mem_map.1 hp
    obtain ⟨_, _, _, _, h4⟩ := hV i (List.mem_range.1 hi)
    exact h4⟩
def RdF {α : Type} (P : Program) (fs : List Field) (off : Nat) (d : Kd α) (wf : α → Prop) : Prop :=
 ∀ {H : Type} {enc : TypeId × Value → H} {w : World} {base : Nat} {spare : Nat → Bool} {held : Bool} {fuel : Nat} {cs : List Value} {xs : List (DataW H × List MemPlace)},
  (∀ (i : Nat) (f : Field), fs[i]? = some f → DataW.trod enc P w base spare held fuel f.type ((cs.drop f.offset).take (P.cellsOf f.type)) = xs[i]?) → xs.length = fs.length → cs.length = off + d.sz →
  (∀ n ∈ DataW.weightsEach P (fs.map (·.type)) (xs.map (·.1)), n ≤ 140737488351232) → ∃ v, d.K w v (cs.drop off) ∧ wf v
theorem RdF.last {α : Type} {P : Program} {f : Field} {off : Nat} {d : Kd α} {wf : α → Prop} (ho : f.offset = off) (h : Rdb P f.type d wf) : RdF P [f] off d wf := by
 intro H enc w base spare held fuel cs xs hf hl hc hz
 match xs, hl with
 | [x], _ =>
  have h1 := hf 0 f rfl
  rw [ho, h.cells, List.take_of_length_le (by rw [List.length_drop]; omega)] at h1
  exact h.rd h1 (fun n hn => hz n (by simp [DataW.weightsEach, hn]))
theorem RdF.cons {α β : Type} {P : Program} {f : Field} {fs : List Field} {off : Nat} {a : Kd α} {b : Kd β} {wa : α → Prop} {wb : β → Prop} (ho : f.offset = off) (h : Rdb P f.type a wa) (hr : RdF P fs (off + a.sz) b wb) : RdF P (f :: fs) off (Kd.pair a b) (fun x => wa x.1 ∧ wb x.2) := by
 intro H enc w base spare held fuel cs xs hf hl hc hz
 match xs, hl with
 | x :: xs, hl =>
  have hsz : (Kd.pair a b).sz = a.sz + b.sz := rfl
  have h1 := hf 0 f rfl
  rw [ho, h.cells] at h1
  obtain ⟨v, hv, hwv⟩ := h.rd h1 (fun n hn => hz n (by simp [DataW.weightsEach, hn]))
  obtain ⟨u, hu, hwu⟩ := hr (cs := cs) (xs := xs) (fun i g hg => by simpa using hf (i + 1) g (by simpa using hg)) (by simpa using hl) (by rw [hc, hsz]; omega) (fun n hn => hz n (by simp only [List.map_cons, DataW.weightsEach, List.mem_append]; exact .inr hn))
  refine ⟨(v, u), ⟨_, _, ?_, hv, hu⟩, hwv, hwu⟩
  rw [← List.drop_drop, List.take_append_drop]
theorem Rdb.struct {α β : Type} {P : Program} {t : TypeId} {fs : Array Field} {d : Kd α} {wf : α → Prop} (f : β → α) (g : α → β) (hfg : ∀ x, f (g x) = x) (ht : P.underlying t = some (.struct fs)) (hc : P.cellsOf t = d.sz) (h : RdF P fs.toList 0 d wf) :
  Rdb P t (Kd.iso d f) (fun x => wf (f x)) :=
 ⟨hc, fun hx hz => by
  obtain ⟨xs, n, _, rfl, hl, hlen, hf⟩ := DataW.trod_struct ht hx
  obtain ⟨v, hv, hw⟩ := h (xs := xs) (fun i f hi => hf i f (by simpa using hi)) (by simpa using hlen) (by rw [hl, hc, Nat.zero_add]) (fun n hn => hz n (by simpa [DataW.weights, ht] using hn))
  refine ⟨g v, ?_, ?_⟩
  ·show d.K _ (f (g v)) _
   rw [hfg]
   simpa using hv
  ·rw [hfg]
   exact hw⟩
theorem Rdb.top {α : Type} {H : Type} {enc : TypeId × Value → H} {P : Program} {W : World} {base : Nat} {spare : Nat → Bool} {held : Bool} {t e : TypeId} {d : Kd α} {wf : List α → Prop} {a : Option Addr} {len cap : Nat} {dd : DataW H} {ps : List MemPlace} {ts : List TypeId} {ds : List (DataW H)} {j : Nat}
  (R : Rdb P t (Kd.slice e d) wf) (hsz : (DataW.weightsEach P ts ds).all (· ≤ reachBytes) = true) (ht : ts[j]? = some t) (hd : ds[j]? = some dd)
  (h : DataW.Trod enc P W base spare held t (.slice a len cap) dd ps) : ∃ l : List α, len = l.length ∧ d.C W a l.length l ∧ l.length ≤ cap ∧ wf l := by
 obtain ⟨fuel, hf⟩ := h
 obtain ⟨l, ⟨A, c, he, hl, hC⟩, hw⟩ := R.rd hf (fun n hn => by
  have := List.all_eq_true.1 hsz _ (DataW.weights_mem_each ht hd n hn)
  exact of_decide_eq_true this)
 simp [Value.cells] at he
 obtain ⟨rfl, rfl, rfl⟩ := he
 exact ⟨l, rfl, hC, hl, hw⟩
end Go.Proofs.YtmgbbmjfjnhmiaaW.PrintWords
end
