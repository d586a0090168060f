/- RenameScores: Score returns what the reference returns. Conditions: none beyond the statement's own. -/
import Derived.Test.YtcmcleoghbjboaaDoorSText
import Derived.Test.YtcmcleoghbjboaaDoorSFoundV
import Derived.Test.YtcmcleoghbjboaaDoorF3
namespace Go.Proofs.YtcmcleoghbjboaaDoor.Pure
open Go.RowKit Go.Proofs.YtcmcleoghbjboaaDoorW.PrintWords Go.Proofs.YtcmcleoghbjboaaDoorW.PrintLast Go.Proofs.YtcmcleoghbjboaaDoorW.PrintMore Go.Proofs.YtcmcleoghbjboaaDoor.Pr
set_option linter.unusedVariables false
set_option linter.unusedSimpArgs false

def partsS (l : List Int) : List ByteArray := (partsOf [] l).map strOfNums
theorem partsS_len (l : List Int) (h : textErr l = 0) : (partsS l).length ≤ 60 ∧ 0 < (partsS l).length := by
  unfold partsS
  rw [List.length_map, partsOf_length]
  have := (textErr_zero h).2
  omega
theorem partsS_small (l : List Int) (u : u8s l = true) (h : textErr l = 0) : small (partsS l) := by
  intro s hs
  obtain ⟨p, hp, rfl⟩ := List.mem_map.1 hs
  rw [strOf_size]
  have ht := congrArg List.length (fed_parts l [])
  have h2 : p.length ≤ (((partsOf [] l).map fun p => 10 :: p).flatten).length := by
    have hm : (10 :: p) ∈ (partsOf [] l).map fun p => 10 :: p := List.mem_map.2 ⟨p, hp, rfl⟩
    have := (List.sublist_flatten_of_mem hm).length_le
    simp only [List.length_cons] at this
    omega
  simp only [List.length_cons, List.nil_append] at ht
  have := (textErr_zero h).1
  omega
/-- The score of two texts. -/
def scoreOf (a b : List Int) : Int := Int.tdiv (2000 * (lcsLen (partsS a) (partsS b) : Int)) (((partsS a).length + (partsS b).length : Nat) : Int)
theorem scoreOf_wrap (a b : List Int) (ha : textErr a = 0) (hb : textErr b = 0) : wrap64 (Int.tdiv (wrap64 (2000 * (lcsLen (partsS a) (partsS b) : Int))) (wrap64 (((partsS a).length : Int) + ((partsS b).length : Int)))) = scoreOf a b := by
  have h1 := lcsLen_le_left (partsS a) (partsS b)
  have h2 := partsS_len a ha
  have h3 := partsS_len b hb
  have e1 : wrap64 (2000 * (lcsLen (partsS a) (partsS b) : Int)) = 2000 * (lcsLen (partsS a) (partsS b) : Int) := w64 (by omega)
  have e2 : wrap64 (((partsS a).length : Int) + ((partsS b).length : Int)) = (((partsS a).length + (partsS b).length : Nat) : Int) := by rw [w64 (by omega)]; omega
  rw [e1, e2]
  show wrap64 (scoreOf a b) = scoreOf a b
  have hp : 0 ≤ scoreOf a b ∧ scoreOf a b ≤ 2000 * (lcsLen (partsS a) (partsS b) : Int) := by
    unfold scoreOf
    have hnn : (0 : Int) ≤ 2000 * (lcsLen (partsS a) (partsS b) : Int) := by omega
    rw [Int.tdiv_eq_ediv_of_nonneg hnn]
    exact ⟨Int.ediv_nonneg hnn (by omega), Int.ediv_le_self _ hnn⟩
  exact w64 (by omega)
theorem score_ev (a b : List Int) (ua : u8s a = true) (ub : u8s b = true) (ha : textErr a = 0) (hb : textErr b = 0) : Ev (fun k => rename_score.f k a b) (scoreOf a b) := by
  unfold rename_score.f
  have sa := split_val a ua
  have sb := split_val b ub
  rw [if_pos ha] at sa
  rw [if_pos hb] at sb
  have hl := length_ev (partsS a) (partsS b) (partsS_small a ua ha) (partsS_small b ub hb)
  have hb0 : bothErr (partsS a) (partsS b) = 0 := bothErr_zero.2 ⟨parts_linesErr a ua ha, parts_linesErr b ub hb⟩
  rw [if_pos hb0] at hl
  refine Ev.bc sa (Ev.bc sb (Ev.bd hl ?_))
  have h2 := partsS_len a ha
  have h3 := partsS_len b hb
  have e2 : wrap64 (((partsS a).length : Int) + ((partsS b).length : Int)) = (((partsS a).length + (partsS b).length : Nat) : Int) := by rw [w64 (by omega)]; omega
  refine Ev.neg ?_ (Ev.rt (scoreOf_wrap a b ha hb))
  show ¬ wrap64 (((partsS a).length : Int) + ((partsS b).length : Int)) = 0
  rw [e2]
  omega
theorem scored_ev (a b : List Int) (na : a.length ≤ 5000) (nb : b.length ≤ 5000) (ha : textErr a = 0) (hb : textErr b = 0) : Ev (fun k => sidingref20_Scored.f k a b) (scoreOf a b) := by
  unfold sidingref20_Scored.f
  have h2 := partsS_len a ha
  have h3 := partsS_len b hb
  refine Ev.bd (parts_ev a (by omega)) (Ev.bd (parts_ev b (by omega)) (Ev.bc (found_val (partsS a) (partsS b) h2.1 h3.1) ?_))
  have e2 : wrap64 (((partsS a).length : Int) + ((partsS b).length : Int)) = (((partsS a).length + (partsS b).length : Nat) : Int) := by rw [w64 (by omega)]; omega
  have e3 : (((bestOf (partsS a) (partsS b)).map prOf).length : Int) = (lcsLen (partsS a) (partsS b) : Int) := by rw [List.length_map, bestOf_length]
  rw [e3]
  refine Ev.neg ?_ (Ev.rt (scoreOf_wrap a b ha hb))
  show ¬ wrap64 (((partsS a).length : Int) + ((partsS b).length : Int)) = 0
  rw [e2]
  omega
theorem RenameScores : sidinglaw20_RenameScores.Pure := by
  intro a b hwa hwb
  apply Ev.rounds (g := fun k => sidinglaw20_RenameScores.f k a b)
  unfold sidinglaw20_RenameScores.f
  have yes : Ev (fun k => sidinglaw20_RenameScores.j0 k a b true) true := Ev.step (fun k => by rw [sidinglaw20_RenameScores.j0]) (Ev.pos rfl (Ev.now _))
  by_cases h1 : 5000 < a.length
  · exact Ev.pos (by omega) yes
  · refine Ev.neg (by omega) ?_
    by_cases h2 : 5000 < b.length
    · rw [decide_eq_true (by omega)]
      exact yes
    · rw [decide_eq_false (by omega)]
      have ua := u8s_wf hwa.2
      have ub := u8s_wf hwb.2
      refine Ev.step (fun k => by rw [sidinglaw20_RenameScores.j0]) (Ev.neg (by decide) ?_)
      have s1 : Ev (fun k => rename_Score.f k a b) (if textErr a = 0 then (if textErr b = 0 then (scoreOf a b, (0 : Int)) else (0, textErr b)) else (0, textErr a)) := by
        unfold rename_Score.f
        refine Ev.bc (tcheck_val a ua) ?_
        by_cases ha : textErr a = 0
        · rw [if_pos ha]
          refine Ev.pos ha (Ev.bc (tcheck_val b ub) ?_)
          by_cases hb : textErr b = 0
          · rw [if_pos hb]
            exact Ev.pos hb (Ev.bd (score_ev a b ua ub ha hb) (Ev.now _))
          · rw [if_neg hb]
            exact Ev.neg hb (Ev.now _)
        · rw [if_neg ha]
          exact Ev.neg ha (Ev.now _)
      have s2 : Ev (fun k => sidingref20_Score.f k a b) (if textErr a = 0 then (if textErr b = 0 then (scoreOf a b, (0 : Int)) else (0, textErr b)) else (0, textErr a)) := by
        unfold sidingref20_Score.f
        refine Ev.bd (rtcheck_ev a (by omega)) ?_
        by_cases ha : textErr a = 0
        · rw [if_pos ha]
          refine Ev.pos ha (Ev.bd (rtcheck_ev b (by omega)) ?_)
          by_cases hb : textErr b = 0
          · rw [if_pos hb]
            exact Ev.pos hb (Ev.bd (scored_ev a b (by omega) (by omega) ha hb) (Ev.now _))
          · rw [if_neg hb]
            exact Ev.neg hb (Ev.bd (rtcheck_ev b (by omega)) (Ev.now _))
        · rw [if_neg ha]
          exact Ev.neg ha (Ev.bd (rtcheck_ev a (by omega)) (Ev.now _))
      exact Ev.bd s1 (Ev.bd s2 (Ev.pos rfl (Ev.rt (by simp))))
end Go.Proofs.YtcmcleoghbjboaaDoor.Pure
