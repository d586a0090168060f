/- What hunk.Check computes; plain functions over hunks. -/
import Derived.Test.YtnajpgimhoighaaSRef
import Derived.Test.YtnajpgimhoighaaPlain
import Derived.Test.YtnajpgimhoighaaF34
namespace Go.Proofs.Ytnajpgimhoighaa.Pr
open Go.RowKit Go.Proofs.YtnajpgimhoighaaW.PrintWords Go.Proofs.YtnajpgimhoighaaW.PrintLast Go.Proofs.YtnajpgimhoighaaW.PrintMore
set_option linter.unusedVariables false
set_option linter.unusedSimpArgs false


theorem rd_h (l : List S46) (i : Nat) (h : i < l.length) : rd_T46 l (i : Int) = l[i] := by simp [rd_T46, h]

/-! ### plain lines, valid hunks -/
def plainL (l : List ByteArray) : Bool := decide (l.length ≤ 60) && !l.any widey
theorem plain_val (l : List ByteArray) : hunk_plain.f l = some (plainL l) := rfl
theorem any_wide (l : List ByteArray) : l.any widey = (l.any (fun s => decide (2000 < s.size)) || l.any feedy) := by
 induction l with
 | nil => rfl
 | cons s l ih =>
  simp only [List.any_cons, ih, widey]
  cases decide (2000 < s.size) <;> cases feedy s <;> cases l.any (fun s => decide (2000 < s.size)) <;> rfl
def validH (h : S46) : Bool := decide (0 ≤ h.f0) && decide (h.f0 ≤ 60) && plainL h.f1 && plainL h.f2 && decide (0 < h.f1.length + h.f2.length)
theorem validH_true {h : S46} (hv : validH h = true) : 0 ≤ h.f0 ∧ h.f0 ≤ 60 ∧ plainL h.f1 = true ∧ plainL h.f2 = true ∧ h.f1.length ≤ 60 ∧ h.f2.length ≤ 60 ∧ 0 < h.f1.length + h.f2.length := by
 simp only [validH, Bool.and_eq_true, decide_eq_true_eq] at hv
 obtain ⟨⟨⟨⟨h1, h2⟩, h3⟩, h4⟩, h5⟩ := hv
 refine ⟨h1, h2, h3, h4, ?_, ?_, h5⟩
 ·simp only [plainL, Bool.and_eq_true, decide_eq_true_eq] at h3
  exact h3.1
 ·simp only [plainL, Bool.and_eq_true, decide_eq_true_eq] at h4
  exact h4.1
theorem plainL_len {l : List ByteArray} (h : plainL l = true) : l.length ≤ 60 := by
 simp only [plainL, Bool.and_eq_true, decide_eq_true_eq] at h
 exact h.1
theorem valid_val (h : S46) : hunk_valid.f h.f0 h.f1 h.f2 = some (validH h) := by
 unfold hunk_valid.f validH
 rw [plain_val, plain_val]
 by_cases h1 : h.f0 ≥ 0
 ·by_cases h2 : h.f0 ≤ 60
  ·rw [if_pos h1, if_pos h2, decide_eq_true (show 0 ≤ h.f0 from h1), decide_eq_true h2]
   cases h3 : plainL h.f1 with
   | false => rfl
   | true =>
    cases h4 : plainL h.f2 with
    | false => rfl
    | true =>
     have := plainL_len h3
     have := plainL_len h4
     simp only [Option.bind_some, if_true, Bool.true_and, Option.some.injEq]
     rw [w64 (by omega), Bool.eq_iff_iff, decide_eq_true_iff, decide_eq_true_iff]
     omega
  ·rw [if_pos h1, if_neg h2, decide_eq_false h2, Bool.and_false]
   simp
 ·rw [if_neg h1, decide_eq_false (show ¬ 0 ≤ h.f0 from h1)]
  simp
/-- The lines of a hunk are not too many and not too long. -/
def tinyH (h : S46) : Prop := tiny h.f1 ∧ tiny h.f2 ∧ h.f1.length ≤ 1000000 ∧ h.f2.length ≤ 1000000
/-! ### Check -/
def chkFrom : Int → List S46 → Int
 | _, [] => 0
 | free, h :: l => if validH h = true then (if h.f0 < free then 8 else chkFrom (h.f0 + (h.f1.length : Int) + 1) l) else 8
theorem chk_cons {free : Int} {h : S46} {l : List S46} (hc : chkFrom free (h :: l) = 0) : validH h = true ∧ free ≤ h.f0 ∧ chkFrom (h.f0 + (h.f1.length : Int) + 1) l = 0 := by
 unfold chkFrom at hc
 split at hc
 ·rename_i hv
  split at hc
  ·cases hc
  ·exact ⟨hv, by omega, hc⟩
 ·cases hc
def checkL (l : List S46) : Int := if 40 < l.length then 4 else chkFrom 0 l
theorem checkL_zero {l : List S46} (h : checkL l = 0) : l.length ≤ 40 ∧ chkFrom 0 l = 0 := by
 unfold checkL at h
 split at h
 ·cases h
 ·exact ⟨by omega, h⟩
theorem chk_valid : ∀ {l : List S46} {free : Int}, chkFrom free l = 0 → ∀ h ∈ l, validH h = true
 | [], _, _, _, hm => by cases hm
 | x :: l, free, hc, h, hm => by
  obtain ⟨h1, _, h3⟩ := chk_cons hc
  rcases List.mem_cons.1 hm with rfl | hm
  ·exact h1
  ·exact chk_valid h3 h hm
theorem hcheck_loop (l : List S46) (hl : l.length ≤ 40) : ∀ (d i : Nat) (free : Int), i + d = l.length →
  Ev (fun k => hunk_Check.l0 k free l (l.length : Int) (i : Int)) (chkFrom free (l.drop i)) := by
 intro d
 induction d with
 | zero =>
  intro i free hi
  obtain rfl : i = l.length := by omega
  refine Ev.step (fun k => by rw [hunk_Check.l0]) ?_
  refine Ev.neg (by omega) (Ev.rt ?_)
  rw [List.drop_length]
  rfl
 | succ d ih =>
  intro i free hi
  have h : i < l.length := by omega
  refine Ev.step (fun k => by rw [hunk_Check.l0]) ?_
  refine Ev.pos (by omega) (Ev.pos (by omega) (Ev.pos (by omega) ?_))
  rw [rd_h _ _ h, drop_at l i h, valid_val]
  refine Ev.bs ?_
  unfold chkFrom
  cases hv : validH l[i] with
  | false => exact Ev.neg (by decide) (Ev.rt (by simp))
  | true =>
   obtain ⟨v1, v2, _, _, v3, v4, _⟩ := validH_true hv
   refine Ev.pos rfl ?_
   rw [if_pos rfl]
   by_cases hf : l[i].f0 < free
   ·exact Ev.pos hf (Ev.rt (by rw [if_pos hf]))
   ·refine Ev.neg hf ?_
    rw [if_neg hf, w64 (x := l[i].f0 + (l[i].f1.length : Int)) (by omega), w64 (by omega), w64 (by omega)]
    exact ih (i + 1) _ (by omega)
theorem hcheck_ev (l : List S46) : Ev (fun k => hunk_Check.f k l) (checkL l) := by
 unfold hunk_Check.f checkL
 by_cases h : 40 < l.length
 ·exact Ev.pos (by omega) (Ev.rt (by rw [if_pos h]))
 ·refine Ev.neg (by omega) ?_
  rw [if_neg h]
  exact hcheck_loop l (by omega) l.length 0 0 (by omega)

/-! ### Fits, Applied -/
def fitsAt (a : List ByteArray) (h : S46) : Bool := decide (h.f0 + (h.f1.length : Int) ≤ (a.length : Int)) && decide ((a.take (h.f0 + (h.f1.length : Int)).toNat).drop h.f0.toNat = h.f1)
def fitsL (a : List ByteArray) (l : List S46) : Bool := l.all (fitsAt a)
/-- Lines after hunks were put in some places. -/
def putL (a : List ByteArray) : Nat → List S46 → List Int → List ByteArray
 | at_, h :: l, p :: pl => (a.take p.toNat).drop at_ ++ h.f2 ++ putL a (p.toNat + h.f1.length) l pl
 | at_, _, _ => a.drop at_
/-- The places are in order, and within the lines. -/
def inOrd (a : List ByteArray) : Nat → List S46 → List Int → Prop
 | at_, h :: l, p :: pl => (at_ : Int) ≤ p ∧ p + (h.f1.length : Int) ≤ (a.length : Int) ∧ inOrd a (p.toNat + h.f1.length) l pl
 | at_, [], [] => at_ ≤ a.length
 | _, _, _ => False
def applL (a : List ByteArray) (l : List S46) : List ByteArray := putL a 0 l (l.map (·.f0))
theorem inOrd_le {a : List ByteArray} : ∀ {l : List S46} {at_ : Nat} {pl : List Int}, inOrd a at_ l pl → at_ ≤ a.length
 | [], _, [], h => h
 | h :: l, at_, p :: pl, ⟨h1, h2, _⟩ => by omega
theorem inOrd_len {a : List ByteArray} : ∀ {l : List S46} {at_ : Nat} {pl : List Int}, inOrd a at_ l pl → l.length = pl.length
 | [], _, [], _ => rfl
 | h :: l, at_, p :: pl, ⟨_, _, h3⟩ => by simp [inOrd_len h3]
theorem inOrd_of {a : List ByteArray} : ∀ {l : List S46} {free : Int} {at_ : Nat}, chkFrom free l = 0 → fitsL a l = true → (at_ : Int) ≤ free → at_ ≤ a.length → inOrd a at_ l (l.map (·.f0))
 | [], _, _, _, _, _, ha => ha
 | h :: l, free, at_, hc, hf, hle, ha => by
  obtain ⟨h1, h2, h3⟩ := chk_cons hc
  obtain ⟨v1, v2, _, _, v3, v4, _⟩ := validH_true h1
  unfold fitsL at hf
  rw [List.all_cons, Bool.and_eq_true] at hf
  have hfa := hf.1
  unfold fitsAt at hfa
  rw [Bool.and_eq_true, decide_eq_true_eq] at hfa
  exact ⟨(by show (at_ : Int) ≤ h.f0; omega), hfa.1, inOrd_of h3 hf.2 (by show ((h.f0.toNat + h.f1.length : Nat) : Int) ≤ _; omega) (by show h.f0.toNat + h.f1.length ≤ a.length; omega)⟩
/-! ### Same, Twin, Long -/
instance decH : DecidableEq S46 := fun x y => decidable_of_iff (x.f0 = y.f0 ∧ x.f1 = y.f1 ∧ x.f2 = y.f2) (by cases x; cases y; simp)
/-- A list of more than 60 hunks, or with a long list of lines among the first ones. -/
def hlong (l : List S46) : Bool := (l.take 61).any (fun h => longOf h.f1 || longOf h.f2) || decide (60 < l.length)
theorem hlong_false {l : List S46} (h : hlong l = false) : l.length ≤ 60 ∧ ∀ x ∈ l, longOf x.f1 = false ∧ longOf x.f2 = false := by
 unfold hlong at h
 rw [Bool.or_eq_false_iff] at h
 obtain ⟨h1, h2⟩ := h
 have hl : l.length ≤ 60 := by simpa using h2
 rw [List.take_of_length_le (by omega), List.any_eq_false] at h1
 exact ⟨hl, fun x hx => by simpa using h1 x hx⟩
theorem hlong_tiny {l : List S46} (h : hlong l = false) : ∀ x ∈ l, tinyH x := fun x hx => by
 obtain ⟨h1, h2⟩ := (hlong_false h).2 x hx
 obtain ⟨a1, a2⟩ := longOf_tiny h1
 obtain ⟨b1, b2⟩ := longOf_tiny h2
 exact ⟨a2, b2, by omega, by omega⟩
end Go.Proofs.Ytnajpgimhoighaa.Pr
