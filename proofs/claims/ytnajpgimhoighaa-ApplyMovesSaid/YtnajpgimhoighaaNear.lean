/- apply.near and the closure that it hands back: what they yield: 0, -1, 1, -2, 2 and so on, up to a reach. -/
import Derived.RangeFuncNested
import Derived.RangeFuncBound
import Derived.RangeFuncCalls
import Derived.RangeFuncLeaves
import Derived.Shelf.Abstract
import Derived.Shelf.RegionOpen
import Derived.WalkKit
import Derived.OwnWalkIn
import Derived.TacticsInMore
import Derived.LoopNIn
import Derived.LoopIn
import Derived.Test.YtnajpgimhoighaaProg
namespace Go.Proofs.Ytnajpgimhoighaa.Near
open Go Go.RowKit Go.Shelf
attribute [local go_sem] Oper.semAt_some
set_option linter.unusedVariables false
set_option linter.unusedSimpArgs false

/-- What has come when d is k + 1. -/
def upto (k : Nat) : List Int := 0 :: (List.range k).flatMap fun i : Nat => [-((i : Int) + 1), (i : Int) + 1]
theorem upto_succ (k : Nat) : upto (k + 1) = upto k ++ [-((k : Int) + 1)] ++ [(k : Int) + 1] := by
  simp [upto, List.range_succ, List.flatMap_append]
theorem upto_zero : upto 0 = [0] := rfl
theorem upto_length (k : Nat) : (upto k).length = 2 * k + 1 := by
  induction k with
  | zero => rfl
  | succ k ih => rw [upto_succ]; simp [ih]; omega
theorem upto_pre {k n : Nat} (h : k ≤ n) : upto k <+: upto n := by
  induction n with
  | zero => obtain rfl : k = 0 := by omega
            exact List.prefix_refl _
  | succ n ih =>
    by_cases e : k = n + 1
    · subst e; exact List.prefix_refl _
    · refine (ih (by omega)).trans ?_
      rw [upto_succ, List.append_assoc]
      exact List.prefix_append _ _
theorem upto_mid {k n : Nat} (h : k + 1 ≤ n) : upto k ++ [-((k : Int) + 1)] <+: upto n := by
  refine List.IsPrefix.trans ?_ (upto_pre h)
  rw [upto_succ]
  exact List.prefix_append _ _

theorem mem_upto {x : Int} {R : Nat} (h : x.natAbs ≤ R) : x ∈ upto R := by
  simp only [upto, List.mem_cons, List.mem_flatMap, List.mem_range]
  by_cases h0 : x = 0
  · exact .inl h0
  · refine .inr ⟨x.natAbs - 1, by omega, ?_⟩
    simp only [List.mem_cons, List.not_mem_nil, or_false]
    omega
/-- What near yields: a number that is not too far away. -/
abbrev NearI (R : Nat) : Type := { x : Int // x.natAbs ≤ R }
theorem pre_of_map {R : Nat} {pre : List (NearI R)} {l : List Int} (h : pre.map (·.1) = l) (hl : l <+: upto R) : pre.map (·.1) <+: upto R := h ▸ hl

set_option maxRecDepth 100000 in
set_option maxHeartbeats 2000000 in
theorem near1_in (F : Fence) (n : Nat) (hF : F.fn 42) (hro : F.round = none) (hn : 1 ≤ n) (l Bn n₀ : Nat) (hBlt : Bn < n₀) (R : Nat) (hR : R ≤ 20) (J Jx : List (NearI R) → World → Prop)
    (hY : ∀ pre x W, J pre W → pre.length < 2 * R + 1 → YieldAt F (n - 1) Try.prog l #[.int .i64 x.1] W fun e W' =>
      (e = .returned (.bool true) ∧ J (pre ++ [x]) W' ∧ Below n₀ W W') ∨ (e = .returned (.bool false) ∧ Jx (pre ++ [x]) W'))
    (W : World) (hBn : W.cell? ⟨Bn, 0, none⟩ = some (.int .i64 (R : Int))) (h0 : J [] W) :
    CallsIn F n Try.prog 42 #[.func (.yield l) #[] #[], .pointer (some ⟨Bn, 0, none⟩)] W fun e W' => (∃ v, e = .returned v) ∧
      ((∃ ys, ys.map (·.1) = upto R ∧ J ys W') ∨ (∃ pre, pre.map (·.1) <+: upto R ∧ Jx pre W')) := by
  refine callsIn_of_wp Try.func42 rfl hF ?_ hro
  simp only [Try.ntmps42, List.size_toArray, List.length_cons, List.length_nil, Nat.reduceAdd, Nat.reduceSub, Array.replicate_succ, Array.replicate_zero, List.push_toArray, List.append_toArray, List.nil_append, List.cons_append]
  obtain ⟨fn0, tmps0, assign0, body0, hy0, hR0⟩ := hY [] ⟨0, by simp⟩ W h0 (by simp)
  dsimp only at hy0
  gi_wp2
  refine hR0.mono ?_
  rintro e W1 (⟨rfl, hJ1, hk1⟩ | ⟨rfl, hJx1⟩)
  · have hB1 : W1.cell? ⟨Bn, 0, none⟩ = some (.int .i64 (R : Int)) := (hk1.cell (p := ⟨Bn, 0, none⟩) hBlt).trans hBn
    gi_wp2
    gi_loopw [3] (fun d wr => ∃ (k : Nat) (pre : List (NearI R)), d = .int .i64 ((k : Int) + 1) ∧ k ≤ R ∧ pre.map (·.1) = upto k ∧ J pre wr ∧ wr.cell? ⟨Bn, 0, none⟩ = some (.int .i64 (R : Int)))
      (fun d wr => R + 1 - (intOf d).toNat)
    case atStart => exact ⟨0, _, rfl, Nat.zero_le _, rfl, hJ1, hB1⟩
    case round =>
      obtain ⟨k, pre, rfl, hk, hpre, hJk, hBk⟩ := hrel
      have hpl : pre.length = 2 * k + 1 := by rw [← upto_length, ← hpre, List.length_map]
      by_cases hlt : (k : Int) + 1 ≤ (R : Int)
      · obtain ⟨fn1, tmps1, assign1, body1, hy1, hR1⟩ := hY pre ⟨-((k : Int) + 1), by omega⟩ wr hJk (by omega)
        dsimp only at hy1
        have hneg : wrap64 (-((k : Int) + 1)) = -((k : Int) + 1) := by unfold wrap64; omega
        gi_wp2
        refine hR1.mono ?_
        rintro e W2 (⟨rfl, hJ2, hk2⟩ | ⟨rfl, hJx2⟩)
        · have hB2 : W2.cell? ⟨Bn, 0, none⟩ = some (.int .i64 (R : Int)) := (hk2.cell (p := ⟨Bn, 0, none⟩) hBlt).trans hBk
          obtain ⟨fn2, tmps2, assign2, body2, hy2, hR2⟩ := hY (pre ++ [⟨-((k : Int) + 1), by omega⟩]) ⟨(k : Int) + 1, by omega⟩ W2 hJ2 (by rw [List.length_append, List.length_singleton]; omega)
          dsimp only at hy2
          gi_wp2
          refine hR2.mono ?_
          rintro e W3 (⟨rfl, hJ3, hk3⟩ | ⟨rfl, hJx3⟩)
          · have hB3 : W3.cell? ⟨Bn, 0, none⟩ = some (.int .i64 (R : Int)) := (hk3.cell (p := ⟨Bn, 0, none⟩) hBlt).trans hB2
            gi_wp2
            go_roundw
            case rel => exact ⟨k + 1, _, by go_num, by omega, by rw [upto_succ, ← hpre]; simp, hJ3, hB3⟩
            case measure => simp [intOf]; omega
          · gi_wp2
            refine bodyPost_ret (results_none rfl _ _ _) rfl ?_
            exact ⟨⟨_, rfl⟩, .inr ⟨_, pre_of_map (by rw [List.map_append, List.map_append, hpre]; exact (upto_succ k).symm) (upto_pre (k := k + 1) (by omega)), hJx3⟩⟩
        · gi_wp2
          refine ⟨fun _ h => (by cases h), ?_⟩
          gi_wp2
          refine bodyPost_ret (results_none rfl _ _ _) rfl ?_
          exact ⟨⟨_, rfl⟩, .inr ⟨_, pre_of_map (by rw [List.map_append, hpre]; rfl) (upto_mid (k := k) (by omega)), hJx2⟩⟩
      · obtain rfl : k = R := by omega
        gi_wp2
        go_end0
        exact ⟨⟨_, rfl⟩, Or.inl ⟨pre, hpre, hJk⟩⟩
  · gi_wp2
    refine bodyPost_ret (results_none rfl _ _ _) rfl ?_
    exact ⟨⟨_, rfl⟩, .inr ⟨_, pre_of_map (l := upto 0) rfl (upto_pre (Nat.zero_le _)), hJx1⟩⟩

theorem near1_stops (F : Fence) (n : Nat) (hF : F.fn 42) (hro : F.round = none) (hn : 1 ≤ n) (Bn n₀ : Nat) (hBlt : Bn < n₀) (R : Nat) (hR : R ≤ 20) (w : World) (hn₀ : n₀ ≤ w.heap.size)
    (hc : w.cell? ⟨Bn, 0, none⟩ = some (.int .i64 (R : Int))) :
    SeqStopsK F n Try.prog 42 #[.pointer (some ⟨Bn, 0, none⟩)] (fun x : NearI R => #[Value.int .i64 x.1]) (Below n₀) (fun ys => ys.map (·.1) = upto R) (fun pre => pre.map (·.1) <+: upto R) (2 * R + 1) w := fun l J Jx W hW _ _ hY h0 =>
  near1_in F n hF hro hn l Bn n₀ hBlt R hR J Jx hY W ((hW.cell (p := ⟨Bn, 0, none⟩) (by show Bn < w.heap.size; omega)).trans hc) h0

set_option maxHeartbeats 1000000 in
theorem near_in (F : Fence) (n : Nat) (hF : F.fn 32) (hro : F.round = none) (r : Int) (w : World) :
    CallsIn F n Try.prog 32 #[.int .i64 r] w fun e w' => e = .returned (.func (.func 42) #[] #[.pointer (some ⟨w.heap.size, 0, none⟩)]) ∧ w' = w.alloc (.cells #[.int .i64 r] 3) := by
  refine callsIn_of_wp Try.func32 rfl hF ?_ hro
  simp only [Try.ntmps32, List.size_toArray, List.length_cons, List.length_nil, Nat.reduceAdd, Nat.reduceSub, Array.replicate_succ, Array.replicate_zero, List.push_toArray, List.append_toArray, List.nil_append, List.cons_append]
  gi_wp2
  go_ret
  exact ⟨rfl, rfl⟩
end Go.Proofs.Ytnajpgimhoighaa.Near
