/- HunkDiffs: whatever the input, the law's function returns true and leaves its arguments as they read. Conditions: none beyond the given statement's own. -/
import Derived.Test.YtmgbbmjfjnhmiaaRows
import Derived.Test.YtmgbbmjfjnhmiaaJHunkDiffs19
import Derived.Test.YtmgbbmjfjnhmiaaJHunkDiffs20
import Derived.WalkKit
import Derived.ProofKit
import Derived.OpenShut
import Derived.ShutString
import Derived.ChangeOld
import Derived.Below
import Derived.SizedLaws
namespace Go.Proofs.Ytmgbbmjfjnhmiaa.hunkDiffs
open Go Go.ChangeShapes Go.WideShapes Go.ChangeAt Go.RowKit Go.Proofs.YtmgbbmjfjnhmiaaW.PrintWords Go.Proofs.Ytmgbbmjfjnhmiaa.Pr
open Go.ChangeMaps (open_string shut_string)
set_option linter.unusedVariables false
set_option linter.unusedSimpArgs false
theorem own : ownKnob Try.prog.godebug = none := by kernel_rfl
theorem laidOut : laidOutB Try.prog = true := by kernel_rfl
theorem rdb9 : Rdb Try.prog 9 Kd.string (fun s => s.size ≤ 140737488351232) := Rdb.string Try.underlying9 (by kernel_rfl)
theorem rdb22 : Rdb Try.prog 22 (Kd.slice 9 Kd.string) (fun xs => xs.length * 16 ≤ 140737488351232 ∧ ∀ x ∈ xs, (fun s => s.size ≤ 140737488351232) x) := haveI : Inhabited (ByteArray) := ⟨(⟨#[]⟩ : ByteArray)⟩; Rdb.slice Try.underlying22 (by kernel_rfl) (show Try.prog.bytesOf 9 = 16 by kernel_rfl) rdb9
theorem rdb3 : Rdb Try.prog 3 (Kd.int .i64) (fun x => (Lit.int .i64 x).wf = true) := Rdb.int Try.underlying3 (by kernel_rfl)
theorem rdb40 : Rdb Try.prog 40 k40 (fun x : S40 => (fun x => (Lit.int .i64 x).wf = true) x.f0 ∧ (fun xs => xs.length * 16 ≤ 140737488351232 ∧ ∀ x ∈ xs, (fun s => s.size ≤ 140737488351232) x) x.f1 ∧ (fun xs => xs.length * 16 ≤ 140737488351232 ∧ ∀ x ∈ xs, (fun s => s.size ≤ 140737488351232) x) x.f2) := by
  have h_ := Rdb.struct (fun x : S40 => (x.f0, x.f1, x.f2)) (fun y => (⟨y.1, y.2.1, y.2.2⟩ : S40)) (fun _ => rfl) Try.underlying40 (by kernel_rfl) (RdF.cons rfl rdb3 (RdF.cons rfl rdb22 (RdF.last rfl rdb22)))
  exact h_
theorem rdb23 : Rdb Try.prog 23 (Kd.slice 40 k40) (fun xs => xs.length * 56 ≤ 140737488351232 ∧ ∀ x ∈ xs, (fun x : S40 => (fun x => (Lit.int .i64 x).wf = true) x.f0 ∧ (fun xs => xs.length * 16 ≤ 140737488351232 ∧ ∀ x ∈ xs, (fun s => s.size ≤ 140737488351232) x) x.f1 ∧ (fun xs => xs.length * 16 ≤ 140737488351232 ∧ ∀ x ∈ xs, (fun s => s.size ≤ 140737488351232) x) x.f2) x) := haveI : Inhabited (S40) := ⟨z40⟩; Rdb.slice Try.underlying23 (by kernel_rfl) (show Try.prog.bytesOf 40 = 56 by kernel_rfl) rdb40
set_option maxRecDepth 100000 in
theorem lifted (os : Os) (started : os.Started) (H : Type) (enc : TypeId × Value → H) :
    ReturnsInHanded {} Try.checked os 3 .any (Rows.hunkDiffsSpec.pre6 enc Try.prog Try.f3 Rows.hunkDiffsRow.domain false) (Rows.hunkDiffsSpec.post enc Try.prog Try.f3 false true false false) := by
  refine returnsInHanded_of_change_sized (C := Try.checked) own started (by kernel_rfl) Try.func3
    (ChangeSpec.witness6 (enc := enc) (C := Try.checked) false ⟨#[], #[.slice none 0 0, .slice none 0 0, .slice none 0 0, .int .i64 0], []⟩ 8 (by kernel_rfl) (by kernel_rfl) (by kernel_rfl) (by kernel_rfl)) ?_
  intro W base args ds gs before hval0 hW hcnd hsz0 _
  have hsz : (DataW.weightsEach Try.prog (Try.f3.params.toList ++ Rows.hunkDiffsSpec.plain.varTypes Try.prog) (ds ++ gs)).all (· ≤ reachBytes) = true := hsz0
  have hval : ∀ (j : Nat) t v, Try.f3.params[j]? = some t → args[j]? = some v → Value.okWide Try.prog W .any base t v := hval0
  have hW' := hW
  obtain ⟨p, q, hA0, hV, rfl, hfz, hnd⟩ := hW
  have hA : DataW.TrodAll enc Try.prog W 0 (fun _ => true) true Try.f3.params.toList args.toList ds p := hA0
  rw [Try.params3] at hA hval hsz
  obtain ⟨v0, vs0, d0, ds0, p0, q0, hargs, rfl, rfl, h0, r0⟩ := trodAll_cons hA
  obtain ⟨v1, vs1, d1, ds1, p1, q1, rfl, rfl, rfl, h1, r1⟩ := trodAll_cons r0
  obtain ⟨v2, vs2, d2, ds2, p2, q2, rfl, rfl, rfl, h2, r2⟩ := trodAll_cons r1
  obtain ⟨v3, vs3, d3, ds3, p3, q3, rfl, rfl, rfl, h3, r3⟩ := trodAll_cons r2
  obtain ⟨rfl, rfl, rfl⟩ := trodAll_nil r3
  obtain rfl : args = #[v0, v1, v2, v3] := by cases args; simp_all
  obtain ⟨rfl, rfl⟩ := trodVars_none hV
  obtain ⟨a0, len0, cap0, rfl⟩ := okWide_slice Try.underlying22 (hval 0 22 v0 rfl rfl)
  have k0 := h0
  have lt0 : ∀ x ∈ p0, x.block < W.heap.size := by obtain ⟨m, hm⟩ := k0; exact DataW.trod_lt m _ _ _ hm
  obtain ⟨l0, rfl, hr0, hc0, hw0⟩ := Rdb.top rdb22 hsz (j := 0) rfl rfl h0
  obtain ⟨a1, len1, cap1, rfl⟩ := okWide_slice Try.underlying22 (hval 1 22 v1 rfl rfl)
  have k1 := h1
  have lt1 : ∀ x ∈ p1, x.block < W.heap.size := by obtain ⟨m, hm⟩ := k1; exact DataW.trod_lt m _ _ _ hm
  obtain ⟨l1, rfl, hr1, hc1, hw1⟩ := Rdb.top rdb22 hsz (j := 1) rfl rfl h1
  obtain ⟨a2, len2, cap2, rfl⟩ := okWide_slice Try.underlying23 (hval 2 23 v2 rfl rfl)
  have k2 := h2
  have lt2 : ∀ x ∈ p2, x.block < W.heap.size := by obtain ⟨m, hm⟩ := k2; exact DataW.trod_lt m _ _ _ hm
  obtain ⟨l2, rfl, hr2, hc2, hw2⟩ := Rdb.top rdb23 hsz (j := 2) rfl rfl h2
  obtain ⟨a3, rfl, rfl, rfl, w3⟩ := open_int Try.underlying3 (hval 3 3 v3 rfl rfl) h3
  clear hA0 hval0 hsz0 hsz
  refine (sidinglaw15_HunkDiffs.walk Pure.HunkDiffs a0 cap0 l0 a1 cap1 l1 a2 cap2 l2 a3 W hr0 hc0 hr1 hc1 hr2 hc2 hw0 hw1 hw2 w3).mono fun e W' ⟨he, bel⟩ => ?_
  subst he
  exact ⟨_, rfl, _, _, _, [], _, [], hW', trodAll_mk1 (shut_bool Try.underlying4 _), (trodAll_cons_mk (Below.trod laidOut (by kernel_rfl) (of_decide_eq_true (by kernel_rfl)) k0 bel lt0) (trodAll_cons_mk (Below.trod laidOut (by kernel_rfl) (of_decide_eq_true (by kernel_rfl)) k1 bel lt1) (trodAll_cons_mk (Below.trod laidOut (by kernel_rfl) (of_decide_eq_true (by kernel_rfl)) k2 bel lt2) (trodAll_cons_mk (shut_int Try.underlying3 w3) trodAll_mk0)))), rfl, bel.frame _, fun h => by cases h⟩
theorem over : Rows.hunkDiffsRow.holds Try.pinned (OpenSpec.ofChange Rows.hunkDiffsSpec) :=
  OpenClaim.holds_of_wide 3 Try.f3 rfl rfl rfl rfl rfl rfl rfl ⟨rfl, rfl, rfl, rfl, rfl⟩ rfl rfl rfl rfl rfl (by kernel_rfl) Try.func3 (by kernel_rfl)
    (of_decide_eq_true (by kernel_rfl)) (by unfold Func.isWrapper; first | (rw [if_pos (by decide +kernel)]; kernel_rfl) | (rw [if_neg (by decide +kernel)]; exact ⟨rfl, rfl⟩))
    (fun os started H enc _ => lifted os started H enc)
theorem proved : Rows.HunkDiffsSaid := over
end Go.Proofs.Ytmgbbmjfjnhmiaa.hunkDiffs
namespace Go.Proofs.Ytmgbbmjfjnhmiaa
/-- The row, under a short name, for the claim. -/
theorem hunkDiffs_holds : Rows.HunkDiffsSaid := hunkDiffs.proved
#print axioms hunkDiffs_holds
end Go.Proofs.Ytmgbbmjfjnhmiaa
