/- What the functions over hunks compute: Check, and the reference's Check, Fits, Applied, Same, Twin, Long. -/
import Derived.Test.YtnajpgimhoighaaSRef
import Derived.Test.YtnajpgimhoighaaPlain
import Derived.Test.YtnajpgimhoighaaF34
import Derived.Test.YtnajpgimhoighaaF22
import Derived.Test.YtnajpgimhoighaaF23
import Derived.Test.YtnajpgimhoighaaF30
import Derived.Test.YtnajpgimhoighaaF19
import Derived.Test.YtnajpgimhoighaaF10
import Derived.Test.YtnajpgimhoighaaF9
namespace Go.Proofs.Ytnajpgimhoighaa.Pr
open Go.RowKit Go.Proofs.YtnajpgimhoighaaW.PrintWords Go.Proofs.YtnajpgimhoighaaW.PrintLast Go.Proofs.YtnajpgimhoighaaW.PrintMore
set_option linter.unusedVariables false
set_option linter.unusedSimpArgs false

theorem rd_h (l : List S46) (i : Nat) (h : i < l.length) : rd_T46 l (i : Int) = l[i] := by simp [rd_T46, h]

def plainL (l : List ByteArray) : Bool := decide (l.length ≤ 60) && !l.any widey
theorem plain_val (l : List ByteArray) : hunk_plain.f l = some (plainL l) := rfl
theorem any_wide (l : List ByteArray) : l.any widey = (l.any (fun s => decide (2000 < s.size)) || l.any feedy) := by
 induction l with
 | nil => rfl
 | cons s l ih =>
  simp only [List.any_cons, ih, widey]
  cases decide (2000 < s.size) <;> cases feedy s <;> cases l.any (fun s => decide (2000 < s.size)) <;> rfl
theorem rplain_loop (l : List ByteArray) (ht : tiny l) (hl : l.length ≤ 1000000) : ∀ (d i : Nat), i + d = l.length →
  Ev (fun k => sidingref15_Plain.l0 k l (i : Int)) (!(l.drop i).any (fun s => decide (2000 < s.size)) && (decide (l.length ≤ 60) && !l.any feedy)) := by
 intro d
 induction d with
 | zero =>
  intro i hi
  obtain rfl : i = l.length := by omega
  refine Ev.step (fun k => by rw [sidingref15_Plain.l0]) ?_
  refine Ev.neg (by omega) ?_
  rw [List.drop_length]
  by_cases h : l.length ≤ 60
  ·refine Ev.pos (by omega) (Ev.bc (feed_ev l ht) (Ev.rt ?_))
   simp [h]
  ·refine Ev.neg (by omega) (Ev.rt ?_)
   simp [h]
 | succ d ih =>
  intro i hi
  have h : i < l.length := by omega
  refine Ev.step (fun k => by rw [sidingref15_Plain.l0]) ?_
  refine Ev.pos (by omega) (Ev.pos (by omega) ?_)
  rw [rdOf_at _ _ _ h, drop_at l i h, List.any_cons]
  by_cases h3 : 2000 < l[i].size
  ·exact Ev.pos (by omega) (Ev.rt (by simp [h3]))
  ·refine Ev.neg (by omega) ?_
   rw [w64 (by omega)]
   have := ih (i + 1) (by omega)
   simpa [h3] using this
theorem rplain_ev (l : List ByteArray) (ht : tiny l) (hl : l.length ≤ 1000000) : Ev (fun k => sidingref15_Plain.f k l) (plainL l) := by
 unfold sidingref15_Plain.f
 have h := rplain_loop l ht hl l.length 0 (by omega)
 refine Ev.eq ?_ h
 rw [plainL, any_wide, List.drop_zero]
 cases l.any (fun s => decide (2000 < s.size)) <;> cases decide (l.length ≤ 60) <;> cases l.any feedy <;> rfl

def validH (h : S46) : Bool := decide (0 ≤ h.f0) && decide (h.f0 ≤ 60) && plainL h.f1 && plainL h.f2 && decide (0 < h.f1.length + h.f2.length)
theorem validH_true {h : S46} (hv : validH h = true) : 0 ≤ h.f0 ∧ h.f0 ≤ 60 ∧ plainL h.f1 = true ∧ plainL h.f2 = true ∧ h.f1.length ≤ 60 ∧ h.f2.length ≤ 60 ∧ 0 < h.f1.length + h.f2.length := by
 simp only [validH, Bool.and_eq_true, decide_eq_true_eq] at hv
 obtain ⟨⟨⟨⟨h1, h2⟩, h3⟩, h4⟩, h5⟩ := hv
 refine ⟨h1, h2, h3, h4, ?_, ?_, h5⟩
 ·simp only [plainL, Bool.and_eq_true, decide_eq_true_eq] at h3
  exact h3.1
 ·simp only [plainL, Bool.and_eq_true, decide_eq_true_eq] at h4
  exact h4.1
theorem plainL_len {l : List ByteArray} (h : plainL l = true) : l.length ≤ 60 := by
 simp only [plainL, Bool.and_eq_true, decide_eq_true_eq] at h
 exact h.1
theorem valid_val (h : S46) : hunk_valid.f h.f0 h.f1 h.f2 = some (validH h) := by
 unfold hunk_valid.f validH
 rw [plain_val, plain_val]
 by_cases h1 : h.f0 ≥ 0
 ·by_cases h2 : h.f0 ≤ 60
  ·rw [if_pos h1, if_pos h2, decide_eq_true (show 0 ≤ h.f0 from h1), decide_eq_true h2]
   cases h3 : plainL h.f1 with
   | false => rfl
   | true =>
    cases h4 : plainL h.f2 with
    | false => rfl
    | true =>
     have := plainL_len h3
     have := plainL_len h4
     simp only [Option.bind_some, if_true, Bool.true_and, Option.some.injEq]
     rw [w64 (by omega), Bool.eq_iff_iff, decide_eq_true_iff, decide_eq_true_iff]
     omega
  ·rw [if_pos h1, if_neg h2, decide_eq_false h2, Bool.and_false]
   simp
 ·rw [if_neg h1, decide_eq_false (show ¬ 0 ≤ h.f0 from h1)]
  simp
def tinyH (h : S46) : Prop := tiny h.f1 ∧ tiny h.f2 ∧ h.f1.length ≤ 1000000 ∧ h.f2.length ≤ 1000000
theorem rvalid_ev (h : S46) (ht : tinyH h) : Ev (fun k => sidingref15_Valid.f k h.f0 h.f1 h.f2) (validH h) := by
 unfold sidingref15_Valid.f validH
 by_cases h1 : h.f0 ≥ 0
 ·refine Ev.pos h1 ?_
  rw [decide_eq_true (show 0 ≤ h.f0 from h1)]
  by_cases h2 : h.f0 ≤ 60
  ·refine Ev.pos h2 (Ev.bd (rplain_ev _ ht.1 ht.2.2.1) ?_)
   rw [decide_eq_true h2]
   cases h3 : plainL h.f1 with
   | false => exact Ev.neg (by decide) (Ev.rt rfl)
   | true =>
    refine Ev.pos rfl (Ev.bd (rplain_ev _ ht.2.1 ht.2.2.2) ?_)
    cases h4 : plainL h.f2 with
    | false => exact Ev.neg (by decide) (Ev.rt rfl)
    | true =>
     refine Ev.pos rfl ?_
     by_cases h5 : 0 < h.f1.length
     ·exact Ev.pos (by omega) (Ev.rt (by simp; omega))
     ·refine Ev.neg (by omega) (Ev.rt ?_)
      simp only [Bool.true_and]
      rw [Bool.eq_iff_iff, decide_eq_true_iff, decide_eq_true_iff]
      omega
  ·exact Ev.neg h2 (Ev.rt (by simp [h2]))
 ·exact Ev.neg h1 (Ev.rt (by simp [show ¬ 0 ≤ h.f0 from h1]))

def chkFrom : Int → List S46 → Int
 | _, [] => 0
 | free, h :: l => if validH h = true then (if h.f0 < free then 8 else chkFrom (h.f0 + (h.f1.length : Int) + 1) l) else 8
theorem chk_cons {free : Int} {h : S46} {l : List S46} (hc : chkFrom free (h :: l) = 0) : validH h = true ∧ free ≤ h.f0 ∧ chkFrom (h.f0 + (h.f1.length : Int) + 1) l = 0 := by
 unfold chkFrom at hc
 split at hc
 ·rename_i hv
  split at hc
  ·cases hc
  ·exact ⟨hv, by omega, hc⟩
 ·cases hc
def checkL (l : List S46) : Int := if 40 < l.length then 4 else chkFrom 0 l
theorem checkL_zero {l : List S46} (h : checkL l = 0) : l.length ≤ 40 ∧ chkFrom 0 l = 0 := by
 unfold checkL at h
 split at h
 ·cases h
 ·exact ⟨by omega, h⟩
theorem chk_valid : ∀ {l : List S46} {free : Int}, chkFrom free l = 0 → ∀ h ∈ l, validH h = true
 | [], _, _, _, hm => by cases hm
 | x :: l, free, hc, h, hm => by
  obtain ⟨h1, _, h3⟩ := chk_cons hc
  rcases List.mem_cons.1 hm with rfl | hm
  ·exact h1
  ·exact chk_valid h3 h hm
theorem hcheck_loop (l : List S46) (hl : l.length ≤ 40) : ∀ (d i : Nat) (free : Int), i + d = l.length →
  Ev (fun k => hunk_Check.l0 k free l (l.length : Int) (i : Int)) (chkFrom free (l.drop i)) := by
 intro d
 induction d with
 | zero =>
  intro i free hi
  obtain rfl : i = l.length := by omega
  refine Ev.step (fun k => by rw [hunk_Check.l0]) ?_
  refine Ev.neg (by omega) (Ev.rt ?_)
  rw [List.drop_length]
  rfl
 | succ d ih =>
  intro i free hi
  have h : i < l.length := by omega
  refine Ev.step (fun k => by rw [hunk_Check.l0]) ?_
  refine Ev.pos (by omega) (Ev.pos (by omega) (Ev.pos (by omega) ?_))
  rw [rd_h _ _ h, drop_at l i h, valid_val]
  refine Ev.bs ?_
  unfold chkFrom
  cases hv : validH l[i] with
  | false => exact Ev.neg (by decide) (Ev.rt (by simp))
  | true =>
   obtain ⟨v1, v2, _, _, v3, v4, _⟩ := validH_true hv
   refine Ev.pos rfl ?_
   rw [if_pos rfl]
   by_cases hf : l[i].f0 < free
   ·exact Ev.pos hf (Ev.rt (by rw [if_pos hf]))
   ·refine Ev.neg hf ?_
    rw [if_neg hf, w64 (x := l[i].f0 + (l[i].f1.length : Int)) (by omega), w64 (by omega), w64 (by omega)]
    exact ih (i + 1) _ (by omega)
theorem hcheck_ev (l : List S46) : Ev (fun k => hunk_Check.f k l) (checkL l) := by
 unfold hunk_Check.f checkL
 by_cases h : 40 < l.length
 ·exact Ev.pos (by omega) (Ev.rt (by rw [if_pos h]))
 ·refine Ev.neg (by omega) ?_
  rw [if_neg h]
  exact hcheck_loop l (by omega) l.length 0 0 (by omega)

def freeAt (l : List S46) (i : Nat) : Int := if h : 0 < i ∧ i - 1 < l.length then l[i - 1].f0 + (l[i - 1].f1.length : Int) + 1 else 0
theorem rcheck_loop (l : List S46) (hl : l.length ≤ 40) (ht : ∀ h ∈ l, tinyH h) : ∀ (d i : Nat), i + d = l.length → (∀ j (hj : j < l.length), j < i → validH l[j] = true) →
  Ev (fun k => sidingref15_Check.l0 k l (i : Int)) (chkFrom (freeAt l i) (l.drop i)) := by
 intro d
 induction d with
 | zero =>
  intro i hi _
  obtain rfl : i = l.length := by omega
  refine Ev.step (fun k => by rw [sidingref15_Check.l0]) ?_
  refine Ev.neg (by omega) (Ev.rt ?_)
  rw [List.drop_length]
  rfl
 | succ d ih =>
  intro i hi hpre
  have h : i < l.length := by omega
  refine Ev.step (fun k => by rw [sidingref15_Check.l0]) ?_
  refine Ev.pos (by omega) (Ev.pos (by omega) ?_)
  rw [rd_h _ _ h, drop_at l i h]
  refine Ev.bd (rvalid_ev _ (ht _ (List.getElem_mem h))) ?_
  unfold chkFrom
  cases hv : validH l[i] with
  | false => exact Ev.neg (by decide) (Ev.rt (by simp))
  | true =>
   obtain ⟨v1, v2, _, _, v3, v4, _⟩ := validH_true hv
   refine Ev.pos rfl ?_
   rw [if_pos rfl]
   have hpre' : ∀ j (hj : j < l.length), j < i + 1 → validH l[j] = true := fun j hj hji => by
    by_cases e : j = i
    ·subst e; exact hv
    ·exact hpre j hj (by omega)
   have hnext := ih (i + 1) (by omega) hpre'
   have hfree : freeAt l (i + 1) = l[i].f0 + (l[i].f1.length : Int) + 1 := by
    unfold freeAt
    rw [dif_pos ⟨by omega, by simpa using h⟩]
    simp
   rw [hfree] at hnext
   by_cases hi0 : 0 < i
   ·obtain ⟨j, rfl⟩ : ∃ j, i = j + 1 := ⟨i - 1, by omega⟩
    have hj : j < l.length := by omega
    have hvj := hpre j hj (by omega)
    obtain ⟨u1, u2, _, _, u3, u4, _⟩ := validH_true hvj
    have hfj : freeAt l (j + 1) = l[j].f0 + (l[j].f1.length : Int) + 1 := by
     unfold freeAt
     rw [dif_pos ⟨by omega, by simpa using hj⟩]
     simp
    rw [hfj]
    have ew : wrap64 (((j + 1 : Nat) : Int) - 1) = (j : Int) := by rw [w64 (by omega)]; omega
    refine Ev.pos (by omega) ?_
    rw [ew]
    refine Ev.pos (by omega) (Ev.pos (by omega) ?_)
    rw [rd_h _ _ hj, w64 (x := l[j].f0 + (l[j].f1.length : Int)) (by omega)]
    by_cases hf : l[j + 1].f0 < l[j].f0 + (l[j].f1.length : Int) + 1
    ·exact Ev.pos (by omega) (Ev.rt (by rw [if_pos hf]))
    ·refine Ev.neg (by omega) ?_
     rw [if_neg hf, w64 (by omega)]
     exact hnext
   ·obtain rfl : i = 0 := by omega
    have hf0 : freeAt l 0 = 0 := by simp [freeAt]
    rw [hf0, if_neg (by omega)]
    refine Ev.neg (by simp) ?_
    rw [w64 (by simp)]
    exact hnext
theorem rcheck_ev (l : List S46) (ht : ∀ h ∈ l, tinyH h) : Ev (fun k => sidingref15_Check.f k l) (checkL l) := by
 unfold sidingref15_Check.f checkL
 by_cases h : 40 < l.length
 ·exact Ev.pos (by omega) (Ev.rt (by rw [if_pos h]))
 ·refine Ev.neg (by omega) ?_
  rw [if_neg h]
  have := rcheck_loop l (by omega) ht l.length 0 (by omega) (fun j _ hj => absurd hj (Nat.not_lt_zero _))
  simpa [freeAt] using this

def fitsAt (a : List ByteArray) (h : S46) : Bool := decide (h.f0 + (h.f1.length : Int) ≤ (a.length : Int)) && decide ((a.take (h.f0 + (h.f1.length : Int)).toNat).drop h.f0.toNat = h.f1)
def fitsL (a : List ByteArray) (l : List S46) : Bool := l.all (fitsAt a)
theorem fits_loop (a : List ByteArray) (l : List S46) (ha : a.length ≤ 1000000) (hl : l.length ≤ 1000000) (hv : ∀ h ∈ l, 0 ≤ h.f0 ∧ h.f0 ≤ 1000000 ∧ h.f1.length ≤ 1000000) : ∀ (d i : Nat), i + d = l.length →
  Ev (fun k => sidingref15_Fits.l0 k a l (i : Int)) (fitsL a (l.drop i)) := by
 intro d
 induction d with
 | zero =>
  intro i hi
  obtain rfl : i = l.length := by omega
  refine Ev.step (fun k => by rw [sidingref15_Fits.l0]) ?_
  refine Ev.neg (by omega) (Ev.rt ?_)
  rw [List.drop_length]
  rfl
 | succ d ih =>
  intro i hi
  have h : i < l.length := by omega
  obtain ⟨v1, v2, v3⟩ := hv _ (List.getElem_mem h)
  refine Ev.step (fun k => by rw [sidingref15_Fits.l0]) ?_
  refine Ev.pos (by omega) (Ev.pos (by omega) ?_)
  rw [rd_h _ _ h, drop_at l i h, w64 (x := l[i].f0 + (l[i].f1.length : Int)) (by omega)]
  unfold fitsL
  rw [List.all_cons]
  unfold fitsAt
  by_cases hf : l[i].f0 + (l[i].f1.length : Int) ≤ (a.length : Int)
  ·refine Ev.neg (by omega) (Ev.pos v1 (Ev.pos (by omega) (Ev.pos hf (Ev.bd (same_ev _ _ (by rw [List.length_drop, List.length_take]; omega)) ?_))))
   rw [decide_eq_true hf, Bool.true_and]
   by_cases hs : (a.take (l[i].f0 + (l[i].f1.length : Int)).toNat).drop l[i].f0.toNat = l[i].f1
   ·rw [decide_eq_true hs, Bool.true_and]
    refine Ev.pos rfl ?_
    rw [w64 (by omega)]
    exact ih (i + 1) (by omega)
   ·rw [decide_eq_false hs]
    exact Ev.neg (by decide) (Ev.rt rfl)
  ·refine Ev.pos (by omega) (Ev.rt ?_)
   rw [decide_eq_false hf]
   rfl
theorem fits_ev (a : List ByteArray) (l : List S46) (ha : a.length ≤ 1000000) (hl : l.length ≤ 1000000) (hv : ∀ h ∈ l, 0 ≤ h.f0 ∧ h.f0 ≤ 1000000 ∧ h.f1.length ≤ 1000000) : Ev (fun k => sidingref15_Fits.f k a l) (fitsL a l) := by
 have h := fits_loop a l ha hl hv l.length 0 (by omega)
 rw [List.drop_zero] at h
 exact h

def putL (a : List ByteArray) : Nat → List S46 → List Int → List ByteArray
 | at_, h :: l, p :: pl => (a.take p.toNat).drop at_ ++ h.f2 ++ putL a (p.toNat + h.f1.length) l pl
 | at_, _, _ => a.drop at_
def inOrd (a : List ByteArray) : Nat → List S46 → List Int → Prop
 | at_, h :: l, p :: pl => (at_ : Int) ≤ p ∧ p + (h.f1.length : Int) ≤ (a.length : Int) ∧ inOrd a (p.toNat + h.f1.length) l pl
 | at_, [], [] => at_ ≤ a.length
 | _, _, _ => False
def applL (a : List ByteArray) (l : List S46) : List ByteArray := putL a 0 l (l.map (·.f0))
theorem inOrd_le {a : List ByteArray} : ∀ {l : List S46} {at_ : Nat} {pl : List Int}, inOrd a at_ l pl → at_ ≤ a.length
 | [], _, [], h => h
 | h :: l, at_, p :: pl, ⟨h1, h2, _⟩ => by omega
theorem inOrd_len {a : List ByteArray} : ∀ {l : List S46} {at_ : Nat} {pl : List Int}, inOrd a at_ l pl → l.length = pl.length
 | [], _, [], _ => rfl
 | h :: l, at_, p :: pl, ⟨_, _, h3⟩ => by simp [inOrd_len h3]
theorem inOrd_of {a : List ByteArray} : ∀ {l : List S46} {free : Int} {at_ : Nat}, chkFrom free l = 0 → fitsL a l = true → (at_ : Int) ≤ free → at_ ≤ a.length → inOrd a at_ l (l.map (·.f0))
 | [], _, _, _, _, _, ha => ha
 | h :: l, free, at_, hc, hf, hle, ha => by
  obtain ⟨h1, h2, h3⟩ := chk_cons hc
  obtain ⟨v1, v2, _, _, v3, v4, _⟩ := validH_true h1
  unfold fitsL at hf
  rw [List.all_cons, Bool.and_eq_true] at hf
  have hfa := hf.1
  unfold fitsAt at hfa
  rw [Bool.and_eq_true, decide_eq_true_eq] at hfa
  exact ⟨(by show (at_ : Int) ≤ h.f0; omega), hfa.1, inOrd_of h3 hf.2 (by show ((h.f0.toNat + h.f1.length : Nat) : Int) ≤ _; omega) (by show h.f0.toNat + h.f1.length ≤ a.length; omega)⟩
theorem applied_loop (a : List ByteArray) (l : List S46) (ha : a.length ≤ 1000000) (hl : l.length ≤ 1000000) (hv : ∀ h ∈ l, h.f2.length ≤ 1000) : ∀ (d i at_ : Nat) (out : List ByteArray), i + d = l.length → out.length ≤ at_ + 1000 * i → inOrd a at_ (l.drop i) ((l.drop i).map (·.f0)) →
  Ev (fun k => sidingref15_Applied.l0 k a l out (at_ : Int) (i : Int)) (out ++ putL a at_ (l.drop i) ((l.drop i).map (·.f0))) := by
 intro d
 induction d with
 | zero =>
  intro i at_ out hi ho hord
  obtain rfl : i = l.length := by omega
  have hat := inOrd_le hord
  refine Ev.step (fun k => by rw [sidingref15_Applied.l0]) ?_
  refine Ev.neg (by omega) (Ev.pos (by omega) (Ev.pos (by omega) ?_))
  rw [Int.toNat_natCast]
  refine Ev.pos (by rw [List.length_drop]; omega) (Ev.rt ?_)
  rw [List.drop_length]
  rfl
 | succ d ih =>
  intro i at_ out hi ho hord
  have h : i < l.length := by omega
  rw [drop_at l i h, List.map_cons] at hord ⊢
  obtain ⟨o1, o2, o3⟩ := hord
  have v4 := hv _ (List.getElem_mem h)
  refine Ev.step (fun k => by rw [sidingref15_Applied.l0]) ?_
  refine Ev.pos (by omega) (Ev.pos (by omega) (Ev.pos (by omega) ?_))
  rw [rd_h _ _ h]
  have hlen : ((a.take l[i].f0.toNat).drop at_).length = l[i].f0.toNat - at_ := by rw [List.length_drop, List.length_take]; omega
  rw [Int.toNat_natCast]
  refine Ev.pos o1 (Ev.pos (by omega) (Ev.pos (by rw [hlen]; omega) (Ev.bs (Ev.pos (by rw [List.length_append, hlen]; omega) ?_))))
  rw [w64 (x := l[i].f0 + (l[i].f1.length : Int)) (by omega), w64 (by omega)]
  have e : l[i].f0 + (l[i].f1.length : Int) = ((l[i].f0.toNat + l[i].f1.length : Nat) : Int) := by omega
  rw [e]
  have := ih (i + 1) (l[i].f0.toNat + l[i].f1.length) (out ++ (a.take l[i].f0.toNat).drop at_ ++ l[i].f2) (by omega) (by rw [List.length_append, List.length_append, hlen]; omega) o3
  refine Ev.eq ?_ this
  simp [putL, List.append_assoc]
theorem applied_ev (a : List ByteArray) (l : List S46) (ha : a.length ≤ 1000000) (hl : l.length ≤ 1000000) (hv : ∀ h ∈ l, h.f2.length ≤ 1000) (hord : inOrd a 0 l (l.map (·.f0))) : Ev (fun k => sidingref15_Applied.f k a l) (applL a l) := by
 have h := applied_loop a l ha hl hv l.length 0 0 [] (by omega) (by simp) (by simpa using hord)
 refine Ev.eq ?_ h
 simp [applL]

instance decH : DecidableEq S46 := fun x y => decidable_of_iff (x.f0 = y.f0 ∧ x.f1 = y.f1 ∧ x.f2 = y.f2) (by cases x; cases y; simp)
theorem hsame_loop (a b : List S46) (hab : a.length = b.length) (hl : a.length ≤ 1000000) (ht : ∀ h ∈ a, h.f1.length ≤ 1000000000 ∧ h.f2.length ≤ 1000000000) : ∀ (d i : Nat), i + d = a.length →
  Ev (fun k => sidingref15_Same.l0 k a b (i : Int)) (decide (a.drop i = b.drop i)) := by
 intro d
 induction d with
 | zero =>
  intro i hi
  refine Ev.step (fun k => by rw [sidingref15_Same.l0]) ?_
  refine Ev.neg (by omega) (Ev.rt ?_)
  rw [List.drop_eq_nil_of_le (by omega), List.drop_eq_nil_of_le (by omega)]
  simp
 | succ d ih =>
  intro i hi
  have h : i < a.length := by omega
  have hb : i < b.length := by omega
  obtain ⟨t1, t2⟩ := ht _ (List.getElem_mem h)
  refine Ev.step (fun k => by rw [sidingref15_Same.l0]) ?_
  refine Ev.pos (by omega) (Ev.pos (by omega) (Ev.pos (by omega) ?_))
  rw [rd_h _ _ h, rd_h _ _ hb, drop_at a i h, drop_at b i hb]
  have key : ∀ (x y : S46), x = y ↔ x.f0 = y.f0 ∧ x.f1 = y.f1 ∧ x.f2 = y.f2 := by
   rintro ⟨x0, x1, x2⟩ ⟨y0, y1, y2⟩
   simp
  by_cases h0 : a[i].f0 = b[i].f0
  ·refine Ev.pos h0 (Ev.bd (same_ev _ _ (by omega)) ?_)
   by_cases h1 : a[i].f1 = b[i].f1
   ·rw [decide_eq_true h1]
    refine Ev.pos rfl (Ev.bd (same_ev _ _ (by omega)) ?_)
    by_cases h2 : a[i].f2 = b[i].f2
    ·rw [decide_eq_true h2]
     refine Ev.pos rfl ?_
     rw [w64 (by omega)]
     refine Ev.eq ?_ (ih (i + 1) (by omega))
     have e0 := (key _ _).2 ⟨h0, h1, h2⟩
     rw [Bool.eq_iff_iff, decide_eq_true_iff, decide_eq_true_iff]
     constructor
     ·intro e; rw [e0, e]
     ·intro e; exact (List.cons.inj e).2
    ·rw [decide_eq_false h2]
     refine Ev.neg (by decide) (Ev.rt ?_)
     rw [decide_eq_false]
     intro e
     exact h2 ((key _ _).1 (List.cons.inj e).1).2.2
   ·rw [decide_eq_false h1]
    refine Ev.neg (by decide) (Ev.rt ?_)
    rw [decide_eq_false]
    intro e
    exact h1 ((key _ _).1 (List.cons.inj e).1).2.1
  ·refine Ev.neg h0 (Ev.rt ?_)
   rw [decide_eq_false]
   intro e
   exact h0 ((key _ _).1 (List.cons.inj e).1).1
theorem hsame_ev (a b : List S46) (hl : a.length ≤ 1000000) (ht : ∀ h ∈ a, h.f1.length ≤ 1000000000 ∧ h.f2.length ≤ 1000000000) : Ev (fun k => sidingref15_Same.f k a b) (decide (a = b)) := by
 unfold sidingref15_Same.f
 by_cases h : a.length = b.length
 ·have := hsame_loop a b h hl ht a.length 0 (by omega)
  rw [List.drop_zero, List.drop_zero] at this
  exact Ev.pos (by omega) this
 ·refine Ev.neg (by omega) (Ev.rt ?_)
  rw [decide_eq_false]
  intro e
  exact h (by rw [e])
theorem twin_loop (l : List S46) (hl : l.length ≤ 1000000) (ht : ∀ h ∈ l, h.f1.length ≤ 1000000000 ∧ h.f2.length ≤ 1000000000) : ∀ (d i : Nat), i + d = l.length →
  Ev (fun k => sidingref15_Twin.l0 k l (l.take i) (i : Int)) l := by
 intro d
 induction d with
 | zero =>
  intro i hi
  refine Ev.step (fun k => by rw [sidingref15_Twin.l0]) ?_
  refine Ev.neg (by omega) (Ev.rt ?_)
  exact List.take_of_length_le (by omega)
 | succ d ih =>
  intro i hi
  have h : i < l.length := by omega
  obtain ⟨t1, t2⟩ := ht _ (List.getElem_mem h)
  refine Ev.step (fun k => by rw [sidingref15_Twin.l0]) ?_
  refine Ev.pos (by omega) (Ev.pos (by omega) (Ev.bs ?_))
  rw [rd_h _ _ h]
  refine Ev.pos (by simp; omega) (Ev.bs (Ev.pos (by simp; omega) (Ev.pos (by rw [List.length_take]; omega) ?_)))
  rw [w64 (by omega)]
  rw [show l.take i ++ [(⟨l[i].f0, ([] : List ByteArray) ++ l[i].f1, ([] : List ByteArray) ++ l[i].f2⟩ : S46)] = l.take (i + 1) from (take_succ_at l i h).symm]
  exact ih (i + 1) (by omega)
theorem twin_ev (l : List S46) (hl : l.length ≤ 1000000) (ht : ∀ h ∈ l, h.f1.length ≤ 1000000000 ∧ h.f2.length ≤ 1000000000) : Ev (fun k => sidingref15_Twin.f k l) l := twin_loop l hl ht l.length 0 (by omega)
def hlong (l : List S46) : Bool := (l.take 61).any (fun h => longOf h.f1 || longOf h.f2) || decide (60 < l.length)
theorem hlong_loop (l : List S46) (hl : l.length ≤ 9000000000000000000) (ht : ∀ h ∈ l, h.f1.length ≤ 9000000000000000000 ∧ h.f2.length ≤ 9000000000000000000) : ∀ (d i : Nat), i + d = 61 →
  Ev (fun k => sidingref15_Long.l0 k l (i : Int)) (((l.take 61).drop i).any (fun h => longOf h.f1 || longOf h.f2) || decide (60 < l.length)) := by
 intro d
 induction d with
 | zero =>
  intro i hi
  obtain rfl : i = 61 := by omega
  have e : (l.take 61).drop 61 = [] := List.drop_eq_nil_of_le (by rw [List.length_take]; omega)
  rw [e]
  refine Ev.step (fun k => by rw [sidingref15_Long.l0]) ?_
  by_cases h : 61 < l.length
  ·refine Ev.pos (by omega) (Ev.step (fun k => by rw [sidingref15_Long.j1]) (Ev.neg (by decide) (Ev.rt ?_)))
   simp
   omega
  ·refine Ev.neg (by omega) (Ev.step (fun k => by rw [sidingref15_Long.j1]) (Ev.neg (by decide) (Ev.rt ?_)))
   simp
   omega
 | succ d ih =>
  intro i hi
  refine Ev.step (fun k => by rw [sidingref15_Long.l0]) ?_
  by_cases h : i < l.length
  ·have hlt : i < (l.take 61).length := by rw [List.length_take]; omega
   have e : (l.take 61).drop i = l[i] :: (l.take 61).drop (i + 1) := by rw [drop_at _ i hlt]; simp
   rw [e, List.any_cons]
   obtain ⟨t1, t2⟩ := ht _ (List.getElem_mem h)
   refine Ev.pos (by omega) (Ev.step (fun k => by rw [sidingref15_Long.j1]) (Ev.pos (by simp; omega) (Ev.pos (by omega) (Ev.pos (by omega) ?_))))
   rw [rd_h _ _ h, w64 (by omega)]
   refine Ev.bd (long_ev _ t1) ?_
   cases h1 : longOf l[i].f1 with
   | true => exact Ev.pos rfl (Ev.rt (by simp))
   | false =>
    refine Ev.neg (by decide) (Ev.bd (long_ev _ t2) ?_)
    cases h2 : longOf l[i].f2 with
    | true => exact Ev.pos rfl (Ev.rt (by simp))
    | false =>
     refine Ev.neg (by decide) ?_
     have := ih (i + 1) (by omega)
     simpa using this
  ·have e : (l.take 61).drop i = [] := List.drop_eq_nil_of_le (by rw [List.length_take]; omega)
   rw [e]
   refine Ev.neg (by omega) (Ev.step (fun k => by rw [sidingref15_Long.j1]) (Ev.neg (by decide) (Ev.rt ?_)))
   simp
   omega
theorem hlong_ev (l : List S46) (hl : l.length ≤ 9000000000000000000) (ht : ∀ h ∈ l, h.f1.length ≤ 9000000000000000000 ∧ h.f2.length ≤ 9000000000000000000) : Ev (fun k => sidingref15_Long.f k l) (hlong l) := by
 unfold sidingref15_Long.f
 have h := hlong_loop l hl ht 61 0 (by omega)
 simpa [hlong] using h
theorem hlong_false {l : List S46} (h : hlong l = false) : l.length ≤ 60 ∧ ∀ x ∈ l, longOf x.f1 = false ∧ longOf x.f2 = false := by
 unfold hlong at h
 rw [Bool.or_eq_false_iff] at h
 obtain ⟨h1, h2⟩ := h
 have hl : l.length ≤ 60 := by simpa using h2
 rw [List.take_of_length_le (by omega), List.any_eq_false] at h1
 exact ⟨hl, fun x hx => by simpa using h1 x hx⟩
theorem hlong_tiny {l : List S46} (h : hlong l = false) : ∀ x ∈ l, tinyH x := fun x hx => by
 obtain ⟨h1, h2⟩ := (hlong_false h).2 x hx
 obtain ⟨a1, a2⟩ := longOf_tiny h1
 obtain ⟨b1, b2⟩ := longOf_tiny h2
 exact ⟨a2, b2, by omega, by omega⟩
end Go.Proofs.Ytnajpgimhoighaa.Pr
