/- Which matching comes before another one. -/
import Derived.Test.YtcmcleoghbjboaaDoorSG
import Derived.Test.YtcmcleoghbjboaaDoorF30
namespace Go.Proofs.YtcmcleoghbjboaaDoor.Pr
open Go.RowKit Go.Proofs.YtcmcleoghbjboaaDoorW.PrintWords Go.Proofs.YtcmcleoghbjboaaDoorW.PrintLast Go.Proofs.YtcmcleoghbjboaaDoorW.PrintMore
set_option linter.unusedVariables false
set_option linter.unusedSimpArgs false

theorem rd_pairs (m : List S48) (i : Nat) (h : i < m.length) : rd_T48 m (i : Int) = m[i] := by simp [rd_T48, h]
theorem rd_prOf (m : List (Nat × Nat)) (i : Nat) (h : i < m.length) : rd_T48 (m.map prOf) (i : Int) = prOf m[i] := by
  rw [rd_pairs (m.map prOf) i (by simpa using h)]
  simp
theorem before_loop (m n : List (Nat × Nat)) (hm : m.length ≤ 1000000) (hn : n.length ≤ 1000000) : ∀ (d i : Nat), i + d = m.length + 1 → (i ≤ m.length) → Ev (fun k => sidingref14_Before.l0 k (m.map prOf) (n.map prOf) (i : Int)) (before (m.drop i) (n.drop i)) := by
  have hml : (m.map prOf).length = m.length := by simp
  have hnl : (n.map prOf).length = n.length := by simp
  intro d
  induction d with
  | zero => intro i h1 h2; omega
  | succ d ih =>
    intro i hi hle
    refine Ev.step (fun k => by rw [sidingref14_Before.l0]) ?_
    rw [hml, hnl]
    by_cases h1 : i < m.length
    · by_cases h2 : i < n.length
      · rw [drop_at m i h1, drop_at n i h2]
        refine Ev.pos (by omega) ?_
        rw [decide_eq_true (show (i : Int) < (n.length : Int) by omega)]
        refine Ev.step (fun k => by rw [sidingref14_Before.j1]) ?_
        rw [hml, hnl]
        refine Ev.pos rfl (Ev.pos (by omega) (Ev.pos (by omega) (Ev.pos (by omega) ?_)))
        rw [rd_prOf m i h1, rd_prOf n i h2, w64 (x := (i : Int) + 1) (by omega)]
        show Ev _ (if m[i].1 ≠ n[i].1 then decide (m[i].1 < n[i].1) else if m[i].2 ≠ n[i].2 then decide (m[i].2 < n[i].2) else before (m.drop (i + 1)) (n.drop (i + 1)))
        by_cases h3 : m[i].1 = n[i].1
        · rw [if_neg (by omega)]
          refine Ev.pos (show ((m[i].1 : Nat) : Int) = ((n[i].1 : Nat) : Int) by omega) ?_
          by_cases h4 : m[i].2 = n[i].2
          · rw [if_neg (by omega)]
            refine Ev.pos (show ((m[i].2 : Nat) : Int) = ((n[i].2 : Nat) : Int) by omega) ?_
            exact ih (i + 1) (by omega) (by omega)
          · rw [if_pos h4]
            refine Ev.neg (show ¬ ((m[i].2 : Nat) : Int) = ((n[i].2 : Nat) : Int) by omega) (Ev.rt ?_)
            show decide (((m[i].2 : Nat) : Int) < ((n[i].2 : Nat) : Int)) = _
            simp
        · rw [if_pos h3]
          refine Ev.neg (show ¬ ((m[i].1 : Nat) : Int) = ((n[i].1 : Nat) : Int) by omega) (Ev.rt ?_)
          show decide (((m[i].1 : Nat) : Int) < ((n[i].1 : Nat) : Int)) = _
          simp
      · have e : before (m.drop i) (n.drop i) = false := by
          rw [List.drop_eq_nil_of_le (show n.length ≤ i by omega), drop_at m i h1]
          rfl
        rw [e]
        refine Ev.pos (by omega) ?_
        rw [decide_eq_false (show ¬ (i : Int) < (n.length : Int) by omega)]
        refine Ev.step (fun k => by rw [sidingref14_Before.j1]) ?_
        exact Ev.neg (by decide) (Ev.now _)
    · have e : before (m.drop i) (n.drop i) = false := by
        rw [List.drop_eq_nil_of_le (show m.length ≤ i by omega)]
        rfl
      rw [e]
      refine Ev.neg (by omega) ?_
      refine Ev.step (fun k => by rw [sidingref14_Before.j1]) ?_
      exact Ev.neg (by decide) (Ev.now _)
theorem before_ev (m n : List (Nat × Nat)) (hm : m.length ≤ 1000000) (hn : n.length ≤ 1000000) : Ev (fun k => sidingref14_Before.f k (m.map prOf) (n.map prOf)) (before m n) := by
  unfold sidingref14_Before.f
  exact before_loop m n hm hn (m.length + 1) 0 (by omega) (by omega)
end Go.Proofs.YtcmcleoghbjboaaDoor.Pr
