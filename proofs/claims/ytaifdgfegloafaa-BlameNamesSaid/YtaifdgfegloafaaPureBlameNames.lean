/- BlameNames: limits and errors. Conditions: none beyond the statement's own. -/
import Derived.Test.YtaifdgfegloafaaSBlame4
import Derived.Test.YtaifdgfegloafaaF4
namespace Go.Proofs.Ytaifdgfegloafaa.Pure
open Go.RowKit Go.Proofs.YtaifdgfegloafaaW.PrintWords Go.Proofs.YtaifdgfegloafaaW.PrintLast Go.Proofs.YtaifdgfegloafaaW.PrintMore Go.Proofs.Ytaifdgfegloafaa.Pr
set_option linter.unusedVariables false
set_option linter.unusedSimpArgs false

def oneV : List (List ByteArray) := [[⟨#[97]⟩]]
def tenV : List (List ByteArray) := List.replicate 10 [⟨#[97]⟩]
theorem tenV_row : rowO tenV (tenV.length - 1) = [⟨0, 0⟩] := by kernel_rfl
theorem tenV_trace : traceL tenV (tenV.length - 1) 0 = List.replicate 10 0 := by decide +kernel
theorem names_l0 : ∀ (d i : Nat), i + d = 10 → Ev (fun k => sidinglaw23_BlameNames.l0 k 8 4 8 4 2 2 [0] 0 (List.replicate i [⟨#[97]⟩]) (i : Int)) true := by
  intro d
  induction d with
  | zero =>
    intro i hi
    have e : i = 10 := by omega
    subst e
    refine Ev.step (fun k => by rw [sidinglaw23_BlameNames.l0]) ?_
    have sm : smallV tenV = true := by decide +kernel
    have ok : vErr tenV = 0 := by decide +kernel
    have b := blame_ev tenV sm (by decide)
    rw [if_pos ok, tenV_row] at b
    have t := trace_val tenV 0 sm (by decide)
    rw [if_pos ok, if_neg (by decide), tenV_trace] at t
    refine Ev.neg (by decide) (Ev.bd b (Ev.bc t (Ev.bd alive23_ev (Ev.pos rfl (Ev.pos rfl (Ev.pos rfl (Ev.pos rfl (Ev.pos rfl (Ev.pos rfl (Ev.pos rfl (Ev.pos rfl (Ev.bd (ints_ev [0] (by decide)) (Ev.pos rfl (Ev.pos rfl (Ev.bd (same23_ev [⟨0, 0⟩] (by decide)) (Ev.pos rfl (Ev.pos rfl (Ev.pos (by decide) (Ev.bd (ints_ev (List.replicate 10 0) (by decide)) (Ev.now _))))))))))))))))))))
  | succ d ih =>
    intro i hi
    refine Ev.step (fun k => by rw [sidinglaw23_BlameNames.l0]) ?_
    rw [w64 (x := (i : Int) + 1) (by omega)]
    refine Ev.pos (by omega) (Ev.pos (by rw [List.length_replicate]; omega) ?_)
    have := ih (i + 1) (by omega)
    rw [List.replicate_succ'] at this
    exact this
theorem BlameNames : sidinglaw23_BlameNames.Pure := by
  apply Ev.rounds (g := fun k => sidinglaw23_BlameNames.f k)
  unfold sidinglaw23_BlameNames.f
  have b0 := blame_ev [] (by decide) (by decide)
  have o0 : ¬ vErr [] = 0 := by decide
  have e0 : vErr [] = 8 := by decide
  rw [if_neg o0, e0] at b0
  have b1 := blame_ev (List.replicate 11 []) (by decide +kernel) (by decide)
  have e1 : vErr (List.replicate 11 []) = 4 := by decide +kernel
  rw [if_neg (by rw [e1]; decide), e1] at b1
  have c0 := count_ev [[⟨#[97]⟩], []] (by decide +kernel) (by decide)
  have e2 : vErr [[⟨#[97]⟩], []] = 8 := by decide +kernel
  rw [if_neg (by rw [e2]; decide), e2] at c0
  have t0 := trace_val [List.replicate 61 ⟨#[]⟩, []] 0 (by decide +kernel) (by decide)
  have e3 : vErr [List.replicate 61 ⟨#[]⟩, []] = 4 := by decide +kernel
  rw [if_neg (by rw [e3]; decide), e3] at t0
  have e4 : vErr oneV = 0 := by decide +kernel
  have t1 := trace_val oneV 1 (by decide +kernel) (by decide)
  rw [if_pos e4, if_pos (by decide)] at t1
  have t2 := trace_val oneV (-1) (by decide +kernel) (by decide)
  rw [if_pos e4, if_pos (by decide)] at t2
  have t3 := trace_val oneV 0 (by decide +kernel) (by decide)
  have e5 : traceL oneV (oneV.length - 1) 0 = [0] := by decide +kernel
  rw [if_pos e4, if_neg (by decide), e5] at t3
  refine Ev.bs (Ev.bd b0 (Ev.pos (by decide) (Ev.bd b1 (Ev.bd c0 (Ev.pos (by decide) (Ev.bc t0 (Ev.bc t1 (Ev.bc t2 (Ev.bc t3 ?_)))))))))
  exact names_l0 10 0 (by decide)
end Go.Proofs.Ytaifdgfegloafaa.Pure
