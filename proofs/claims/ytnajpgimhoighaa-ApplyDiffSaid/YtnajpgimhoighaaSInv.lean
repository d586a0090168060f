/- A list of hunks and its inverse undo each other. -/
import Derived.Test.YtnajpgimhoighaaSApplyD
namespace Go.Proofs.Ytnajpgimhoighaa.Pr
open Go.RowKit Go.Proofs.YtnajpgimhoighaaW.PrintWords Go.Proofs.YtnajpgimhoighaaW.PrintLast Go.Proofs.YtnajpgimhoighaaW.PrintMore
set_option linter.unusedVariables false
set_option linter.unusedSimpArgs false

theorem inv_chk : ∀ {l : List S46} {more free : Int} {r : List S46}, chkFrom free l = 0 → 0 ≤ free + more → invFrom more l = some r → chkFrom (free + more) r = 0 ∧ invFrom (-more) r = some l
 | [], more, free, r, _, _, hr => by
  obtain rfl : [] = r := Option.some.inj hr
  exact ⟨rfl, rfl⟩
 | h :: l, more, free, r, hc, h0, hr => by
  obtain ⟨h1, h2, h3⟩ := chk_cons hc
  obtain ⟨v1, v2, p1, p2, v3, v4, v5⟩ := validH_true h1
  unfold invFrom at hr
  split at hr
  ·cases hr
  ·rename_i h6
   obtain ⟨r', hr', rfl⟩ := Option.map_eq_some_iff.1 hr
   have hg : h.f0 + (h.f1.length : Int) + 1 + (more + growth h) = h.f0 + more + (h.f2.length : Int) + 1 := by unfold growth; omega
   obtain ⟨i1, i2⟩ := inv_chk h3 (by rw [hg]; omega) hr'
   rw [hg] at i1
   have hv : validH (⟨h.f0 + more, h.f2, h.f1⟩ : S46) = true := by
    simp only [validH, Bool.and_eq_true, decide_eq_true_eq]
    exact ⟨⟨⟨⟨by omega, by omega⟩, p2⟩, p1⟩, by omega⟩
   constructor
   ·unfold chkFrom
    rw [if_pos hv, if_neg (by show ¬ (h.f0 + more < free + more); omega)]
    exact i1
   ·unfold invFrom
    rw [if_neg (by show ¬ (60 < h.f0 + more + -more); omega)]
    have e2 : -more + growth (⟨h.f0 + more, h.f2, h.f1⟩ : S46) = -(more + growth h) := by
     show -more + ((h.f1.length : Int) - (h.f2.length : Int)) = -(more + ((h.f2.length : Int) - (h.f1.length : Int)))
     omega
    rw [e2, i2]
    show some ((⟨h.f0 + more + -more, h.f1, h.f2⟩ : S46) :: l) = some (h :: l)
    rw [show h.f0 + more + -more = h.f0 by omega]
theorem inv_len : ∀ {l : List S46} {more : Int} {r : List S46}, invFrom more l = some r → r.length = l.length
 | [], _, r, hr => by
  obtain rfl : [] = r := Option.some.inj hr
  rfl
 | h :: l, more, r, hr => by
  unfold invFrom at hr
  split at hr
  ·cases hr
  ·obtain ⟨r', hr', rfl⟩ := Option.map_eq_some_iff.1 hr
   simp [inv_len hr']
theorem inv_inv {l r : List S46} (hc : checkL l = 0) (hr : invFrom 0 l = some r) : checkL r = 0 ∧ invFrom 0 r = some l := by
 obtain ⟨h1, h2⟩ := checkL_zero hc
 obtain ⟨i1, i2⟩ := inv_chk h2 (by simp) hr
 refine ⟨?_, by simpa using i2⟩
 unfold checkL
 rw [if_neg (by rw [inv_len hr]; omega)]
 simpa using i1
theorem inv_mem : ∀ {l : List S46} {more : Int} {r : List S46}, invFrom more l = some r → ∀ x ∈ r, ∃ h ∈ l, x.f1 = h.f2 ∧ x.f2 = h.f1
 | [], _, r, hr, x, hx => by
  obtain rfl : [] = r := Option.some.inj hr
  cases hx
 | h :: l, more, r, hr, x, hx => by
  unfold invFrom at hr
  split at hr
  ·cases hr
  ·obtain ⟨r', hr', rfl⟩ := Option.map_eq_some_iff.1 hr
   rcases List.mem_cons.1 hx with rfl | hx
   ·exact ⟨h, List.mem_cons_self, rfl, rfl⟩
   ·obtain ⟨y, hy, e⟩ := inv_mem hr' x hx
    exact ⟨y, List.mem_cons_of_mem _ hy, e⟩
theorem inv_back (a : List ByteArray) : ∀ (l : List S46) (more free : Int) (r : List S46) (at_ : Nat) (P : List ByteArray), chkFrom free l = 0 → fitsL a l = true → (at_ : Int) ≤ free → at_ ≤ a.length → 0 ≤ free + more → invFrom more l = some r → (P.length : Int) = (at_ : Int) + more →
  fitsL (P ++ putL a at_ l (l.map (·.f0))) r = true ∧ putL (P ++ putL a at_ l (l.map (·.f0))) P.length r (r.map (·.f0)) = a.drop at_
 | [], more, free, r, at_, P, _, _, _, _, _, hr, hP => by
  obtain rfl : [] = r := Option.some.inj hr
  refine ⟨rfl, ?_⟩
  simp [putL]
 | h :: l, more, free, r, at_, P, hc, hf, hle, hat, h0, hr, hP => by
  obtain ⟨h1, h2, h3⟩ := chk_cons hc
  obtain ⟨v1, v2, p1, p2, v3, v4, v5⟩ := validH_true h1
  unfold invFrom at hr
  split at hr
  ·cases hr
  ·rename_i h6
   obtain ⟨r', hr', rfl⟩ := Option.map_eq_some_iff.1 hr
   unfold fitsL at hf
   rw [List.all_cons, Bool.and_eq_true] at hf
   obtain ⟨hfa, hfl⟩ := hf
   unfold fitsAt at hfa
   rw [Bool.and_eq_true, decide_eq_true_eq, decide_eq_true_eq] at hfa
   obtain ⟨f1, f2⟩ := hfa
   have hlen : ((a.take h.f0.toNat).drop at_).length = h.f0.toNat - at_ := by rw [List.length_drop, List.length_take]; omega
   have hQ : ((P ++ (a.take h.f0.toNat).drop at_).length : Int) = h.f0 + more := by rw [List.length_append, hlen]; omega
   have hQ2 : ((P ++ (a.take h.f0.toNat).drop at_ ++ h.f2).length : Int) = ((h.f0.toNat + h.f1.length : Nat) : Int) + (more + growth h) := by
    rw [List.length_append]
    unfold growth
    omega
   obtain ⟨ih1, ih2⟩ := inv_back a l (more + growth h) (h.f0 + (h.f1.length : Int) + 1) r' (h.f0.toNat + h.f1.length) (P ++ (a.take h.f0.toNat).drop at_ ++ h.f2) h3 hfl (by omega) (by omega) (by unfold growth; omega) hr' hQ2
   have eB : P ++ putL a at_ (h :: l) ((h :: l).map (·.f0)) = P ++ (a.take h.f0.toNat).drop at_ ++ h.f2 ++ putL a (h.f0.toNat + h.f1.length) l (l.map (·.f0)) := by
    simp [putL, List.append_assoc]
   rw [eB]
   obtain ⟨B, hB⟩ : ∃ B, P ++ (a.take h.f0.toNat).drop at_ ++ h.f2 ++ putL a (h.f0.toNat + h.f1.length) l (l.map (·.f0)) = B := ⟨_, rfl⟩
   rw [hB] at ih1 ih2 ⊢
   have hn1 : (h.f0 + more).toNat = (P ++ (a.take h.f0.toNat).drop at_).length := by omega
   have hn2 : (h.f0 + more + (h.f2.length : Int)).toNat = (P ++ (a.take h.f0.toNat).drop at_ ++ h.f2).length := by rw [List.length_append]; omega
   have hn3 : (h.f0 + more).toNat + h.f2.length = (P ++ (a.take h.f0.toNat).drop at_ ++ h.f2).length := by rw [List.length_append]; omega
   constructor
   ·unfold fitsL
    rw [List.all_cons, Bool.and_eq_true]
    refine ⟨?_, ih1⟩
    unfold fitsAt
    rw [Bool.and_eq_true, decide_eq_true_eq, decide_eq_true_eq]
    dsimp only
    constructor
    ·rw [← hB, List.length_append, List.length_append]; omega
    ·rw [hn1, hn2, ← hB, List.take_left, List.append_assoc P]
     rw [← List.append_assoc P, List.drop_left]
   ·show (B.take (h.f0 + more).toNat).drop P.length ++ h.f1 ++ putL B ((h.f0 + more).toNat + h.f2.length) r' (r'.map (·.f0)) = a.drop at_
    rw [hn3, ih2, hn1]
    rw [← hB, List.append_assoc _ h.f2, List.take_left, List.drop_left]
    have e3 : (h.f0 + (h.f1.length : Int)).toNat = h.f0.toNat + h.f1.length := by omega
    rw [e3] at f2
    have key : ∀ (x y z : Nat), x ≤ y → y ≤ z → z ≤ a.length → (a.take y).drop x ++ (a.take z).drop y ++ a.drop z = a.drop x := by
     intro x y z hxy hyz hz
     have e4 : (a.take y).drop x = (a.drop x).take (y - x) := by rw [List.drop_take]
     have e5 : (a.take z).drop y = (a.drop y).take (z - y) := by rw [List.drop_take]
     rw [e4, e5, List.append_assoc]
     have e6 : a.drop z = (a.drop y).drop (z - y) := by rw [List.drop_drop]; congr 1; omega
     rw [e6, List.take_append_drop]
     have e7 : a.drop y = (a.drop x).drop (y - x) := by rw [List.drop_drop]; congr 1; omega
     rw [e7, List.take_append_drop]
    have e8 := key at_ h.f0.toNat (h.f0.toNat + h.f1.length) (by omega) (by omega) (by omega)
    rw [f2] at e8
    exact e8
theorem exact_back {a : List ByteArray} {l r : List S46} (hc : checkL l = 0) (hf : fitsL a l = true) (hr : invFrom 0 l = some r) : fitsL (applL a l) r = true ∧ applL (applL a l) r = a := by
 obtain ⟨h1, h2⟩ := inv_back a l 0 0 r 0 [] (checkL_zero hc).2 hf (by simp) (Nat.zero_le _) (by simp) hr (by simp)
 simp only [List.nil_append, List.length_nil, List.drop_zero] at h1 h2
 exact ⟨h1, h2⟩
end Go.Proofs.Ytnajpgimhoighaa.Pr
