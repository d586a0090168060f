/- A list of hunks that fits is moved by nothing; a greater reach changes nothing. -/
import Derived.Test.YtnajpgimhoighaaSMovedD
namespace Go.Proofs.Ytnajpgimhoighaa.Pr
open Go.RowKit Go.Proofs.YtnajpgimhoighaaW.PrintWords Go.Proofs.YtnajpgimhoighaaW.PrintLast Go.Proofs.YtnajpgimhoighaaW.PrintMore Go.Proofs.Ytnajpgimhoighaa.Near
set_option linter.unusedVariables false
set_option linter.unusedSimpArgs false

theorem valid_tiny {h : S46} (hv : validH h = true) : tinyH h := by
 obtain ⟨_, _, p1, p2, v3, v4, _⟩ := validH_true hv
 have key : ∀ {l : List ByteArray}, plainL l = true → tiny l := by
  intro l hl s hs
  simp only [plainL, Bool.and_eq_true, Bool.not_eq_true', List.any_eq_false] at hl
  have := hl.2 s hs
  simp only [widey, Bool.or_eq_true, decide_eq_true_eq, not_or] at this
  omega
 exact ⟨key p1, key p2, by omega, by omega⟩
theorem chk_tiny {l : List S46} (h : checkL l = 0) : ∀ x ∈ l, tinyH x := fun x hx => valid_tiny (chk_valid (checkL_zero h).2 x hx)
theorem movedGo_zero (a : List ByteArray) (R : Nat) : ∀ (l : List S46) (free e : Int), chkFrom free l = 0 → fitsL a l = true → e ≤ free → movedGo a R l e 0 = some (l.map (·.f0))
 | [], _, _, _, _, _ => rfl
 | h :: l, free, e, hc, hf, he => by
  obtain ⟨h1, h2, h3⟩ := chk_cons hc
  obtain ⟨v1, v2, _, _, v3, v4, _⟩ := validH_true h1
  unfold fitsL at hf
  rw [List.all_cons, Bool.and_eq_true] at hf
  have hs : standsB a h.f1 h.f0 = true := by rw [stands_fits a h v1]; exact hf.1
  have hp : firstP a h.f1 (h.f0 + 0) e (upto R) = some h.f0 := by
   unfold upto firstP
   rw [if_pos ⟨by omega, by rw [show h.f0 + 0 + 0 = h.f0 by omega]; exact hs⟩]
   rw [show h.f0 + 0 + 0 = h.f0 by omega]
  unfold movedGo
  rw [hp, Option.bind_some, show h.f0 - h.f0 = 0 by omega, movedGo_zero a R l _ _ h3 hf.2 (by omega)]
  rfl
theorem byL_zero : ∀ (l : List S46), byL l (l.map (·.f0)) = List.replicate l.length 0
 | [] => rfl
 | h :: l => by
  have ih := byL_zero l
  unfold byL at ih ⊢
  rw [List.map_cons, List.zip_cons_cons, List.map_cons, ih, List.length_cons, List.replicate_succ]
  congr 1
  show h.f0 - h.f0 = 0
  omega
theorem movedL_fits {a : List ByteArray} {l : List S46} {reach : Int} (hb : bothE a l = 0) (hf : fitsL a l = true) (h0 : 0 ≤ reach) (h1 : reach ≤ 20) :
  movedL a l reach = if linesErr (applL a l) = 0 then (applL a l, List.replicate l.length 0, 0) else ([], [], linesErr (applL a l)) := by
 unfold movedL
 rw [if_pos hb, if_neg (by omega), movedGo_zero a _ l 0 0 (checkL_zero (bothE_zero hb).2).2 hf (Int.le_refl _)]
 dsimp only
 rw [byL_zero]
 rfl
theorem firstP_append {a old : List ByteArray} {want e p : Int} : ∀ {ds : List Int} (es : List Int), firstP a old want e ds = some p → firstP a old want e (ds ++ es) = some p
 | [], _, h => by cases h
 | x :: ds, es, h => by
  unfold firstP at h
  rw [List.cons_append]
  unfold firstP
  split at h
  ·rename_i hx
   rw [if_pos hx]
   exact h
  ·rename_i hx
   rw [if_neg hx]
   exact firstP_append es h
theorem movedGo_more (a : List ByteArray) {R R' : Nat} (hR : R ≤ R') : ∀ (l : List S46) (e off : Int) (pl : List Int), movedGo a R l e off = some pl → movedGo a R' l e off = some pl
 | [], _, _, _, h => h
 | h :: l, e, off, pl, hg => by
  unfold movedGo at hg ⊢
  obtain ⟨p, hp, hg⟩ := Option.bind_eq_some_iff.1 hg
  obtain ⟨q, hq, rfl⟩ := Option.map_eq_some_iff.1 hg
  obtain ⟨es, hes⟩ := upto_pre hR
  rw [← hes, firstP_append es hp, Option.bind_some, movedGo_more a hR l _ _ q hq]
  rfl
end Go.Proofs.Ytnajpgimhoighaa.Pr
