-- Written by wip/tools/myprint.py of this project (a walk of the program's text by program).
import Derived.Test.YtnajpgimhoighaaK
namespace Go.Proofs.Ytnajpgimhoighaa.Pr
open Go.RowKit Go.Proofs.YtnajpgimhoighaaW.PrintWords Go.Proofs.YtnajpgimhoighaaW.PrintLast Go.Proofs.YtnajpgimhoighaaW.PrintMore
attribute [local go_sem] max2_int min2_int max_two min_two max_three min_three max_four min_four   -- for this text's walks alone
set_option linter.unusedVariables false
set_option linter.unusedSimpArgs false

/-! ### lcs_next: function 48 -/
mutual
def lcs_next.l0 : Nat → List ByteArray → List ByteArray → List (List Int) → Int → Int → Int → Option (Int × Int)
  | 0, _, _, _, _, _, _ => none
  | k + 1, x0, x1, x2, x3, x4, x11 => lcs_next.l1 k x0 x1 x2 x3 x4 x11 x4
def lcs_next.l1 : Nat → List ByteArray → List ByteArray → List (List Int) → Int → Int → Int → Int → Option (Int × Int)
  | 0, _, _, _, _, _, _, _ => none
  | k + 1, x0, x1, x2, x3, x4, x11, x12 => if x12 < (x1.length : Int) then (if 0 ≤ x3 then (if x3 < (x0.length : Int) then (if 0 ≤ x12 then (if (rdOf ByteArray.empty x0 x3).toList = (rdOf ByteArray.empty x1 x12).toList then (if 0 ≤ (wrap64 (x3 + 1)) then (if (wrap64 (x3 + 1)) < (x2.length : Int) then (if 0 ≤ (wrap64 (x12 + 1)) then (if (wrap64 (x12 + 1)) < ((rd_Li64 x2 (wrap64 (x3 + 1))).length : Int) then (if (rd (rd_Li64 x2 (wrap64 (x3 + 1))) (wrap64 (x12 + 1))) = (wrap64 (x11 - 1)) then (some (x3, x12)) else (lcs_next.l1 k x0 x1 x2 x3 x4 x11 (wrap64 (x12 + 1)))) else (none)) else (none)) else (none)) else (none)) else (lcs_next.l1 k x0 x1 x2 x3 x4 x11 (wrap64 (x12 + 1)))) else (none)) else (none)) else (none)) else (lcs_next.l0 k x0 x1 x2 (wrap64 (x3 + 1)) x4 x11)
end
def lcs_next.f (k : Nat) (l0 : List ByteArray) (l1 : List ByteArray) (l2 : List (List Int)) (a3 : Int) (a4 : Int) : Option (Int × Int) := if 0 ≤ a3 then (if a3 < (l2.length : Int) then (if 0 ≤ a4 then (if a4 < ((rd_Li64 l2 a3).length : Int) then (lcs_next.l0 k l0 l1 l2 a3 a4 (rd (rd_Li64 l2 a3) a4)) else (none)) else (none)) else (none)) else (none)
theorem lcs_next.mono_l : ∀ k, (∀ y0 y1 y2 y3 y4 y5, LeO (lcs_next.l0 k y0 y1 y2 y3 y4 y5) (lcs_next.l0 (k + 1) y0 y1 y2 y3 y4 y5)) ∧ (∀ y0 y1 y2 y3 y4 y5 y6, LeO (lcs_next.l1 k y0 y1 y2 y3 y4 y5 y6) (lcs_next.l1 (k + 1) y0 y1 y2 y3 y4 y5 y6))
  | 0 => ⟨fun _ _ _ _ _ _ r h => by simp [lcs_next.l0] at h, fun _ _ _ _ _ _ _ r h => by simp [lcs_next.l1] at h⟩
  | k + 1 => by
    obtain ⟨ih0, ih1⟩ := lcs_next.mono_l k
    refine ⟨?_, ?_⟩
    · intro y0 y1 y2 y3 y4 y5
      unfold lcs_next.l0
      repeat' first
      | (with_reducible exact ih0 _ _ _ _ _ _)
      | (with_reducible exact ih1 _ _ _ _ _ _ _)
      | (with_reducible exact LeO.refl _)
      | (with_reducible exact LeO.none _)
      | (with_reducible refine LeO.ite ?_ ?_)
      | (with_reducible refine LeO.bind ?_ (fun _ => ?_))
      | exact ih0 _ _ _ _ _ _
      | exact ih1 _ _ _ _ _ _ _
      | exact LeO.none _
      | refine LeO.ite ?_ ?_
      | refine LeO.bind ?_ (fun _ => ?_)
    · intro y0 y1 y2 y3 y4 y5 y6
      unfold lcs_next.l1
      repeat' first
      | (with_reducible exact ih0 _ _ _ _ _ _)
      | (with_reducible exact ih1 _ _ _ _ _ _ _)
      | (with_reducible exact LeO.refl _)
      | (with_reducible exact LeO.none _)
      | (with_reducible refine LeO.ite ?_ ?_)
      | (with_reducible refine LeO.bind ?_ (fun _ => ?_))
      | exact ih0 _ _ _ _ _ _
      | exact ih1 _ _ _ _ _ _ _
      | exact LeO.none _
      | refine LeO.ite ?_ ?_
      | refine LeO.bind ?_ (fun _ => ?_)
theorem lcs_next.mono : ∀ a0 a1 a2 a3 a4 k, LeO (lcs_next.f k a0 a1 a2 a3 a4) (lcs_next.f (k + 1) a0 a1 a2 a3 a4) := by
  intro a0 a1 a2 a3 a4 k
  obtain ⟨ih0, ih1⟩ := lcs_next.mono_l k
  unfold lcs_next.f
  repeat' first
      | (with_reducible exact ih0 _ _ _ _ _ _)
      | (with_reducible exact ih1 _ _ _ _ _ _ _)
      | (with_reducible exact LeO.refl _)
      | (with_reducible exact LeO.none _)
      | (with_reducible refine LeO.ite ?_ ?_)
      | (with_reducible refine LeO.bind ?_ (fun _ => ?_))
      | exact ih0 _ _ _ _ _ _
      | exact ih1 _ _ _ _ _ _ _
      | exact LeO.none _
      | refine LeO.ite ?_ ?_
      | refine LeO.bind ?_ (fun _ => ?_)
set_option maxHeartbeats 8000000 in
set_option maxRecDepth 100000 in
theorem lcs_next.calls (k : Nat) (A0 : Option Addr) (c0 : Nat) (l0 : List ByteArray) (A1 : Option Addr) (c1 : Nat) (l1 : List ByteArray) (A2 : Option Addr) (c2 : Nat) (l2 : List (List Int)) (a3 : Int) (a4 : Int) (r1 : Int) (r2 : Int) (w : World) (hr0 : Kd.C Kd.string w A0 l0.length l0) (hc0 : l0.length ≤ c0) (hr1 : Kd.C Kd.string w A1 l1.length l1) (hc1 : l1.length ≤ c1) (hr2 : Kd.C (Kd.slice 3 (Kd.int .i64)) w A2 l2.length l2) (hc2 : l2.length ≤ c2) (h : lcs_next.f k l0 l1 l2 a3 a4 = some (r1, r2)) :
    Calls Try.prog 48 #[.slice A0 l0.length c0, .slice A1 l1.length c1, .slice A2 l2.length c2, .int .i64 a3, .int .i64 a4] w fun e w' => e = .returned (.agg #[.int .i64 r1, .int .i64 r2]) ∧ Below w.heap.size w w' := by
  have hu69 := Try.underlying69
  have HR0 := Aside0.mk hr0
  have HC0 := Aside0.mk hc0
  clear hr0 hc0
  have HR1 := Aside0.mk hr1
  have HC1 := Aside0.mk hc1
  clear hr1 hc1
  have HR2 := Aside0.mk hr2
  have HC2 := Aside0.mk hc2
  clear hr2 hc2
  have HB := Aside0.mk (Below.refl w.heap.size w)
  have H : (if 0 ≤ a3 then (if a3 < (l2.length : Int) then (if 0 ≤ a4 then (if a4 < ((rd_Li64 l2 a3).length : Int) then (lcs_next.l0 k l0 l1 l2 a3 a4 (rd (rd_Li64 l2 a3) a4)) else (none)) else (none)) else (none)) else (none)) = some (r1, r2) := h
  clear h
  by_cases c6 : 0 ≤ a3
  · rw [if_pos c6] at H
    have c6b0 : decide (0 ≤ a3) = true := decide_eq_true c6
    clear c6
    by_cases c7 : a3 < (l2.length : Int)
    · rw [if_pos c7] at H
      have c7b0 : decide (a3 < (l2.length : Int)) = true := decide_eq_true c7
      clear c7
      by_cases c8 : 0 ≤ a4
      · rw [if_pos c8] at H
        have c8b0 : decide (0 ≤ a4) = true := decide_eq_true c8
        clear c8
        by_cases c9 : a4 < ((rd_Li64 l2 a3).length : Int)
        · rw [if_pos c9] at H
          have c9b0 : decide (a4 < ((rd_Li64 l2 a3).length : Int)) = true := decide_eq_true c9
          clear c9
          have H' := Aside0.mk H
          clear H
          go_enter Try.func48, Try.ntmps48
          go_wp2_with (first | ((with_reducible refine gate_dst (N := 10) rfl ?_); refine box_event ?hg (N := 10) ?hd (cs := #[.int .i64 0, .int .i64 0]) (t := 69) ?hr ?_; (case hd => rfl); (case hg => rfl); (case hr => first | (go_simp; done) | (go_simp; rfl)); intro gb737 hg w10 hbox hb; have n0_ := Aside0.mk (below_step (by repeat (first | (with_reducible first | exact HB.out | apply below_alloc | apply pw_below_drewN | apply below_drew1) | exact HB.out)) hb); have n1_ := Aside0.mk (hbox); have n2_ := Aside0.mk ((by rw [hg]; exact (below_size (by repeat (first | (with_reducible first | exact HB.out | apply below_alloc | apply pw_below_drewN | apply below_drew1) | exact HB.out))) : w.heap.size ≤ gb737)); have n3_ := Aside0.mk ((by rw [hg]; exact (below_size (by repeat (first | (with_reducible first | exact HB.out | apply below_alloc | apply pw_below_drewN | apply below_drew1) | exact HB.out))) : w.heap.size ≤ gb737)); clear HB; have HB := n0_; have BK737 := n1_; have GW737 := n2_; have GE737 := n3_; clear n0_ n1_ n2_ n3_; clear hb hbox hg; have p738 : 0 ≤ (a3 : Int) := of_decide_eq_true (by first | (with_reducible assumption) | assumption); have q738 : a3 < (l2.length : Int) := of_decide_eq_true (by first | (with_reducible assumption) | assumption); obtain ⟨ad738, A738_0, c738_0, e738, hx738_0, hl738_0, hi738_0⟩ := at_Li64 HR2.out a3 p738 q738; cases e738; replace hx738_0 := (HB.out.cell (World.block_lt_of_cell? w _ hx738_0)).trans hx738_0; have HR738_0 := Aside0.mk hi738_0; have HC738_0 := Aside0.mk hl738_0; clear hi738_0 hl738_0; replace p738 := eq_true p738; replace q738 := eq_true q738; have p739 : 0 ≤ (a4 : Int) := of_decide_eq_true (by first | (with_reducible assumption) | assumption); have q739 : a4 < ((rd_Li64 l2 a3).length : Int) := of_decide_eq_true (by first | (with_reducible assumption) | assumption); obtain ⟨ad739, e739, hx739_0⟩ := Kd.at_int HR738_0.out a4 p739 q739; cases e739; replace hx739_0 := (HB.out.cell (World.block_lt_of_cell? w _ hx739_0)).trans hx739_0; replace p739 := eq_true p739; replace q739 := eq_true q739))
          repeat (go_quiet (first | ((with_reducible refine gate_dst (N := 10) rfl ?_); refine box_event ?hg (N := 10) ?hd (cs := #[.int .i64 0, .int .i64 0]) (t := 69) ?hr ?_; (case hd => rfl); (case hg => rfl); (case hr => first | (go_simp; done) | (go_simp; rfl)); intro gb737 hg w10 hbox hb; have n0_ := Aside0.mk (below_step (by repeat (first | (with_reducible first | exact HB.out | apply below_alloc | apply pw_below_drewN | apply below_drew1) | exact HB.out)) hb); have n1_ := Aside0.mk (hbox); have n2_ := Aside0.mk ((by rw [hg]; exact (below_size (by repeat (first | (with_reducible first | exact HB.out | apply below_alloc | apply pw_below_drewN | apply below_drew1) | exact HB.out))) : w.heap.size ≤ gb737)); have n3_ := Aside0.mk ((by rw [hg]; exact (below_size (by repeat (first | (with_reducible first | exact HB.out | apply below_alloc | apply pw_below_drewN | apply below_drew1) | exact HB.out))) : w.heap.size ≤ gb737)); clear HB; have HB := n0_; have BK737 := n1_; have GW737 := n2_; have GE737 := n3_; clear n0_ n1_ n2_ n3_; clear hb hbox hg; have p738 : 0 ≤ (a3 : Int) := of_decide_eq_true (by first | (with_reducible assumption) | assumption); have q738 : a3 < (l2.length : Int) := of_decide_eq_true (by first | (with_reducible assumption) | assumption); obtain ⟨ad738, A738_0, c738_0, e738, hx738_0, hl738_0, hi738_0⟩ := at_Li64 HR2.out a3 p738 q738; cases e738; replace hx738_0 := (HB.out.cell (World.block_lt_of_cell? w _ hx738_0)).trans hx738_0; have HR738_0 := Aside0.mk hi738_0; have HC738_0 := Aside0.mk hl738_0; clear hi738_0 hl738_0; replace p738 := eq_true p738; replace q738 := eq_true q738; have p739 : 0 ≤ (a4 : Int) := of_decide_eq_true (by first | (with_reducible assumption) | assumption); have q739 : a4 < ((rd_Li64 l2 a3).length : Int) := of_decide_eq_true (by first | (with_reducible assumption) | assumption); obtain ⟨ad739, e739, hx739_0⟩ := Kd.at_int HR738_0.out a4 p739 q739; cases e739; replace hx739_0 := (HB.out.cell (World.block_lt_of_cell? w _ hx739_0)).trans hx739_0; replace p739 := eq_true p739; replace q739 := eq_true q739)); try go_wp2_with (first | ((with_reducible refine gate_dst (N := 10) rfl ?_); refine box_event ?hg (N := 10) ?hd (cs := #[.int .i64 0, .int .i64 0]) (t := 69) ?hr ?_; (case hd => rfl); (case hg => rfl); (case hr => first | (go_simp; done) | (go_simp; rfl)); intro gb737 hg w10 hbox hb; have n0_ := Aside0.mk (below_step (by repeat (first | (with_reducible first | exact HB.out | apply below_alloc | apply pw_below_drewN | apply below_drew1) | exact HB.out)) hb); have n1_ := Aside0.mk (hbox); have n2_ := Aside0.mk ((by rw [hg]; exact (below_size (by repeat (first | (with_reducible first | exact HB.out | apply below_alloc | apply pw_below_drewN | apply below_drew1) | exact HB.out))) : w.heap.size ≤ gb737)); have n3_ := Aside0.mk ((by rw [hg]; exact (below_size (by repeat (first | (with_reducible first | exact HB.out | apply below_alloc | apply pw_below_drewN | apply below_drew1) | exact HB.out))) : w.heap.size ≤ gb737)); clear HB; have HB := n0_; have BK737 := n1_; have GW737 := n2_; have GE737 := n3_; clear n0_ n1_ n2_ n3_; clear hb hbox hg; have p738 : 0 ≤ (a3 : Int) := of_decide_eq_true (by first | (with_reducible assumption) | assumption); have q738 : a3 < (l2.length : Int) := of_decide_eq_true (by first | (with_reducible assumption) | assumption); obtain ⟨ad738, A738_0, c738_0, e738, hx738_0, hl738_0, hi738_0⟩ := at_Li64 HR2.out a3 p738 q738; cases e738; replace hx738_0 := (HB.out.cell (World.block_lt_of_cell? w _ hx738_0)).trans hx738_0; have HR738_0 := Aside0.mk hi738_0; have HC738_0 := Aside0.mk hl738_0; clear hi738_0 hl738_0; replace p738 := eq_true p738; replace q738 := eq_true q738; have p739 : 0 ≤ (a4 : Int) := of_decide_eq_true (by first | (with_reducible assumption) | assumption); have q739 : a4 < ((rd_Li64 l2 a3).length : Int) := of_decide_eq_true (by first | (with_reducible assumption) | assumption); obtain ⟨ad739, e739, hx739_0⟩ := Kd.at_int HR738_0.out a4 p739 q739; cases e739; replace hx739_0 := (HB.out.cell (World.block_lt_of_cell? w _ hx739_0)).trans hx739_0; replace p739 := eq_true p739; replace q739 := eq_true q739)))
          go_loopg [3] k (fun kq v3 w' => ∃ (x3_1 : Int) (x738000_1 : Int) (x738001_1 : Int), v3 = .int .i64 x3_1 ∧ Aside0 (lcs_next.l0 kq l0 l1 l2 x3_1 a4 (rd (rd_Li64 l2 a3) a4) = some (r1, r2)) ∧ Aside0 (kq ≤ k) ∧ Aside0 (w'.heap[gb737]? = some (.cells #[.int .i64 x738000_1, .int .i64 x738001_1] 69 (0, 0))) ∧ Aside0 (Below w.heap.size w w'))
          case atStart => exact ⟨(a3), (0), (0), (by first | rfl | (simp; done) | (simp [*]; done)), H', ⟨Nat.le_refl _⟩, ⟨by (with_reducible repeat (first | refine blk_drewN ?_ _ | refine blk_drew ?_ | refine blk_alloc ?_ _)); exact BK737.out⟩, ⟨by repeat (first | (with_reducible first | exact HB.out | apply below_alloc | apply pw_below_drewN | apply below_drew1 | refine below_set ?_ GE737.out) | exact HB.out)⟩⟩
          case round =>
            clear H'
            try clear c1
            try clear c2
            try clear p2
            try clear c4
            try clear c6
            try clear c6b0
            try clear c7
            try clear c7b0
            try clear p7
            try clear q7
            try clear hx7
            try clear c8
            try clear c8b0
            try clear c9
            try clear c9b0
            try clear hx738_0
            try clear hx739_0
            try clear p738
            try clear p739
            try clear q738
            try clear q739
            obtain ⟨x3_1, x738000_1, x738001_1, rfl, HA, HK1, BK737, HB⟩ := hrel
            cases gk with
            | zero => exact absurd HA.out (by simp [lcs_next.l0])
            | succ k1 =>
              have H := HA.out
              clear HA
              simp only [lcs_next.l0] at H
              have H' := Aside0.mk H
              clear H
              go_wp2
              repeat (go_quiet (fail); try go_wp2)
              go_loopg [12] k1 (fun kq v12 w' => ∃ (x12_2 : Int) (x738000_2 : Int) (x738001_2 : Int), v12 = .int .i64 x12_2 ∧ Aside0 (lcs_next.l1 kq l0 l1 l2 x3_1 a4 (rd (rd_Li64 l2 a3) a4) x12_2 = some (r1, r2)) ∧ Aside0 (kq ≤ k1) ∧ Aside0 (w'.heap[gb737]? = some (.cells #[.int .i64 x738000_2, .int .i64 x738001_2] 69 (0, 0))) ∧ Aside0 (Below w.heap.size w w'))
              case atStart => exact ⟨(a4), (x738000_1), (x738001_1), (by first | rfl | (simp; done) | (simp [*]; done)), H', ⟨Nat.le_refl _⟩, ⟨by (with_reducible repeat (first | refine blk_drewN ?_ _ | refine blk_drew ?_ | refine blk_alloc ?_ _)); exact BK737.out⟩, ⟨by repeat (first | (with_reducible first | exact HB.out | apply below_alloc | apply pw_below_drewN | apply below_drew1 | refine below_set ?_ GE737.out) | exact HB.out)⟩⟩
              case round =>
                clear H'
                try clear c1
                try clear c2
                try clear p2
                try clear c4
                try clear c6
                try clear c6b0
                try clear c7
                try clear c7b0
                try clear p7
                try clear q7
                try clear hx7
                try clear c8
                try clear c8b0
                try clear c9
                try clear c9b0
                try clear hx738_0
                try clear hx739_0
                try clear p2
                try clear p7
                try clear p738
                try clear p739
                try clear q7
                try clear q738
                try clear q739
                obtain ⟨x12_2, x738000_2, x738001_2, rfl, HA, HK2, BK737, HB⟩ := hrel
                cases gk with
                | zero => exact absurd HA.out (by simp [lcs_next.l1])
                | succ k2 =>
                  have H := HA.out
                  clear HA
                  simp only [lcs_next.l1] at H
                  by_cases c11 : x12_2 < (l1.length : Int)
                  · rw [if_pos c11] at H
                    have c11b0 : decide (x12_2 < (l1.length : Int)) = true := decide_eq_true c11
                    clear c11
                    by_cases c12 : 0 ≤ x3_1
                    · rw [if_pos c12] at H
                      have c12b0 : decide (0 ≤ x3_1) = true := decide_eq_true c12
                      clear c12
                      by_cases c13 : x3_1 < (l0.length : Int)
                      · rw [if_pos c13] at H
                        have c13b0 : decide (x3_1 < (l0.length : Int)) = true := decide_eq_true c13
                        clear c13
                        by_cases c14 : 0 ≤ x12_2
                        · rw [if_pos c14] at H
                          have c14b0 : decide (0 ≤ x12_2) = true := decide_eq_true c14
                          clear c14
                          by_cases c15 : (rdOf ByteArray.empty l0 x3_1).toList = (rdOf ByteArray.empty l1 x12_2).toList
                          · rw [if_pos c15] at H
                            have c15b0 : ((rdOf ByteArray.empty l0 x3_1).toList == (rdOf ByteArray.empty l1 x12_2).toList) = true := beq_iff_eq.mpr c15
                            have c15b1 : ((rdOf ByteArray.empty l0 x3_1).toList != (rdOf ByteArray.empty l1 x12_2).toList) = false := bne_eq_false_iff_eq.mpr c15
                            clear c15
                            obtain ⟨ji16, hji16⟩ : ∃ j_ : Int, (wrap64 (x3_1 + 1)) = j_ := ⟨_, rfl⟩
                            replace H : (if 0 ≤ (ji16) then (if (ji16) < (l2.length : Int) then (if 0 ≤ (wrap64 (x12_2 + 1)) then (if (wrap64 (x12_2 + 1)) < ((rd_Li64 l2 (ji16)).length : Int) then (if (rd (rd_Li64 l2 (ji16)) (wrap64 (x12_2 + 1))) = (wrap64 ((rd (rd_Li64 l2 a3) a4) - 1)) then (some (x3_1, x12_2)) else (lcs_next.l1 k2 l0 l1 l2 x3_1 a4 (rd (rd_Li64 l2 a3) a4) (wrap64 (x12_2 + 1)))) else (none)) else (none)) else (none)) else (none)) = some (r1, r2) := by first | (rw [hji16] at H; exact H) | (simp only [hji16] at H ⊢; exact H)
                            have hji16w : (IntKind.i64.wrap (x3_1 + 1)) = ji16 := (i64_w _).trans hji16
                            by_cases c17 : 0 ≤ (ji16)
                            · rw [if_pos c17] at H
                              have c17b0 : decide (0 ≤ (ji16)) = true := decide_eq_true c17
                              clear c17
                              by_cases c18 : (ji16) < (l2.length : Int)
                              · rw [if_pos c18] at H
                                have c18b0 : decide ((ji16) < (l2.length : Int)) = true := decide_eq_true c18
                                clear c18
                                obtain ⟨ji19, hji19⟩ : ∃ j_ : Int, (wrap64 (x12_2 + 1)) = j_ := ⟨_, rfl⟩
                                replace H : (if 0 ≤ (ji19) then (if (ji19) < ((rd_Li64 l2 (ji16)).length : Int) then (if (rd (rd_Li64 l2 (ji16)) (ji19)) = (wrap64 ((rd (rd_Li64 l2 a3) a4) - 1)) then (some (x3_1, x12_2)) else (lcs_next.l1 k2 l0 l1 l2 x3_1 a4 (rd (rd_Li64 l2 a3) a4) ji19)) else (none)) else (none)) = some (r1, r2) := by first | (rw [hji19] at H; exact H) | (simp only [hji19] at H ⊢; exact H)
                                have hji19w : (IntKind.i64.wrap (x12_2 + 1)) = ji19 := (i64_w _).trans hji19
                                by_cases c20 : 0 ≤ (ji19)
                                · rw [if_pos c20] at H
                                  have c20b0 : decide (0 ≤ (ji19)) = true := decide_eq_true c20
                                  clear c20
                                  by_cases c21 : (ji19) < ((rd_Li64 l2 (ji16)).length : Int)
                                  · rw [if_pos c21] at H
                                    have c21b0 : decide ((ji19) < ((rd_Li64 l2 (ji16)).length : Int)) = true := decide_eq_true c21
                                    clear c21
                                    by_cases c22 : (rd (rd_Li64 l2 (ji16)) (ji19)) = (wrap64 ((rd (rd_Li64 l2 a3) a4) - 1))
                                    · rw [if_pos c22] at H
                                      have c22b0 : ((rd (rd_Li64 l2 (ji16)) (ji19)) == (wrap64 ((rd (rd_Li64 l2 a3) a4) - 1))) = true := beq_iff_eq.mpr c22
                                      have c22b1 : ((rd (rd_Li64 l2 (ji16)) (ji19)) != (wrap64 ((rd (rd_Li64 l2 a3) a4) - 1))) = false := bne_eq_false_iff_eq.mpr c22
                                      clear c22
                                      simp only [Option.some.injEq, Prod.mk.injEq] at H
                                      obtain ⟨rfl, rfl⟩ := H
                                      have p740 : 0 ≤ (x3_1 : Int) := of_decide_eq_true (by first | (with_reducible assumption) | assumption)
                                      have q740 : x3_1 < (l0.length : Int) := of_decide_eq_true (by first | (with_reducible assumption) | assumption)
                                      obtain ⟨ad740, e740, hx740_0⟩ := Kd.at_string HR0.out x3_1 p740 q740
                                      cases e740
                                      replace hx740_0 := (HB.out.cell (World.block_lt_of_cell? w _ hx740_0)).trans hx740_0
                                      replace p740 := eq_true p740
                                      replace q740 := eq_true q740
                                      have p741 : 0 ≤ (x12_2 : Int) := of_decide_eq_true (by first | (with_reducible assumption) | assumption)
                                      have q741 : x12_2 < (l1.length : Int) := of_decide_eq_true (by first | (with_reducible assumption) | assumption)
                                      obtain ⟨ad741, e741, hx741_0⟩ := Kd.at_string HR1.out x12_2 p741 q741
                                      cases e741
                                      replace hx741_0 := (HB.out.cell (World.block_lt_of_cell? w _ hx741_0)).trans hx741_0
                                      replace p741 := eq_true p741
                                      replace q741 := eq_true q741
                                      have p742 : 0 ≤ ((ji16) : Int) := of_decide_eq_true (by first | (with_reducible assumption) | assumption)
                                      have q742 : (ji16) < (l2.length : Int) := of_decide_eq_true (by first | (with_reducible assumption) | assumption)
                                      obtain ⟨ad742, A742_0, c742_0, e742, hx742_0, hl742_0, hi742_0⟩ := at_Li64 HR2.out (ji16) p742 q742
                                      obtain rfl : ad738 = ad742 := (by injection e742)
                                      replace hx742_0 := (HB.out.cell (World.block_lt_of_cell? w _ hx742_0)).trans hx742_0
                                      have HR742_0 := Aside0.mk hi742_0
                                      have HC742_0 := Aside0.mk hl742_0
                                      clear hi742_0 hl742_0
                                      replace p742 := eq_true p742
                                      replace q742 := eq_true q742
                                      have p743 : 0 ≤ ((ji19) : Int) := of_decide_eq_true (by first | (with_reducible assumption) | assumption)
                                      have q743 : (ji19) < ((rd_Li64 l2 (ji16)).length : Int) := of_decide_eq_true (by first | (with_reducible assumption) | assumption)
                                      obtain ⟨ad743, e743, hx743_0⟩ := Kd.at_int HR742_0.out (ji19) p743 q743
                                      cases e743
                                      replace hx743_0 := (HB.out.cell (World.block_lt_of_cell? w _ hx743_0)).trans hx743_0
                                      replace p743 := eq_true p743
                                      replace q743 := eq_true q743
                                      have hcz23_0 : wr.cell? ⟨gb737, 0, none⟩ = some (.int .i64 x738000_2) := (blk_cell BK737.out 0).trans rfl
                                      have hcz23_1 : wr.cell? ⟨gb737, 1, none⟩ = some (.int .i64 x738001_2) := (blk_cell BK737.out 1).trans rfl
                                      have hfz23_0 := blk_frozen BK737.out 0
                                      have hfz23_1 := blk_frozen BK737.out 1
                                      go_wp2
                                      repeat (go_quiet (fail); try go_wp2)
                                      refine bodyPost_ret (results_cell_row rfl _ _ gb737 69 #[.int .i64 x3_1, .int .i64 x12_2] (0, 0) _ rfl (by (with_reducible repeat (first | refine blk_drewN ?_ _ | refine blk_drew ?_ | refine blk_alloc ?_ _)); refine blk_put (cs := #[.int .i64 x3_1, .int .i64 x738001_2]) ?_ 1 _ rfl; (with_reducible repeat (first | refine blk_drewN ?_ _ | refine blk_drew ?_ | refine blk_alloc ?_ _)); refine blk_put (cs := #[.int .i64 x738000_2, .int .i64 x738001_2]) ?_ 0 _ rfl; (with_reducible repeat (first | refine blk_drewN ?_ _ | refine blk_drew ?_ | refine blk_alloc ?_ _)); exact BK737.out) Try.underlying69 rfl (by kernel_rfl)) rfl ?_
                                      exact ⟨by first | rfl | (simp [errW_none, errW_some] <;> rfl) | (simp only [← hji16, ← hji19]; first | rfl | (simp [errW_none, errW_some] <;> rfl)) | (simp [*, errW_none, errW_some] <;> rfl), by repeat (first | (with_reducible first | exact HB.out | apply below_alloc | apply pw_below_drewN | apply below_drew1 | refine below_set ?_ GE737.out) | exact HB.out)⟩
                                    · rw [if_neg c22] at H
                                      have c22b0 : ((rd (rd_Li64 l2 (ji16)) (ji19)) == (wrap64 ((rd (rd_Li64 l2 a3) a4) - 1))) = false := beq_eq_false_iff_ne.mpr c22
                                      have c22b1 : ((rd (rd_Li64 l2 (ji16)) (ji19)) != (wrap64 ((rd (rd_Li64 l2 a3) a4) - 1))) = true := bne_iff_ne.mpr c22
                                      have H' := Aside0.mk H
                                      clear H
                                      have p740 : 0 ≤ (x3_1 : Int) := of_decide_eq_true (by first | (with_reducible assumption) | assumption)
                                      have q740 : x3_1 < (l0.length : Int) := of_decide_eq_true (by first | (with_reducible assumption) | assumption)
                                      obtain ⟨ad740, e740, hx740_0⟩ := Kd.at_string HR0.out x3_1 p740 q740
                                      cases e740
                                      replace hx740_0 := (HB.out.cell (World.block_lt_of_cell? w _ hx740_0)).trans hx740_0
                                      replace p740 := eq_true p740
                                      replace q740 := eq_true q740
                                      have p741 : 0 ≤ (x12_2 : Int) := of_decide_eq_true (by first | (with_reducible assumption) | assumption)
                                      have q741 : x12_2 < (l1.length : Int) := of_decide_eq_true (by first | (with_reducible assumption) | assumption)
                                      obtain ⟨ad741, e741, hx741_0⟩ := Kd.at_string HR1.out x12_2 p741 q741
                                      cases e741
                                      replace hx741_0 := (HB.out.cell (World.block_lt_of_cell? w _ hx741_0)).trans hx741_0
                                      replace p741 := eq_true p741
                                      replace q741 := eq_true q741
                                      have p742 : 0 ≤ ((ji16) : Int) := of_decide_eq_true (by first | (with_reducible assumption) | assumption)
                                      have q742 : (ji16) < (l2.length : Int) := of_decide_eq_true (by first | (with_reducible assumption) | assumption)
                                      obtain ⟨ad742, A742_0, c742_0, e742, hx742_0, hl742_0, hi742_0⟩ := at_Li64 HR2.out (ji16) p742 q742
                                      obtain rfl : ad738 = ad742 := (by injection e742)
                                      replace hx742_0 := (HB.out.cell (World.block_lt_of_cell? w _ hx742_0)).trans hx742_0
                                      have HR742_0 := Aside0.mk hi742_0
                                      have HC742_0 := Aside0.mk hl742_0
                                      clear hi742_0 hl742_0
                                      replace p742 := eq_true p742
                                      replace q742 := eq_true q742
                                      have p743 : 0 ≤ ((ji19) : Int) := of_decide_eq_true (by first | (with_reducible assumption) | assumption)
                                      have q743 : (ji19) < ((rd_Li64 l2 (ji16)).length : Int) := of_decide_eq_true (by first | (with_reducible assumption) | assumption)
                                      obtain ⟨ad743, e743, hx743_0⟩ := Kd.at_int HR742_0.out (ji19) p743 q743
                                      cases e743
                                      replace hx743_0 := (HB.out.cell (World.block_lt_of_cell? w _ hx743_0)).trans hx743_0
                                      replace p743 := eq_true p743
                                      replace q743 := eq_true q743
                                      go_wp2
                                      repeat (go_quiet (fail); try go_wp2)
                                      go_roundg k2
                                      case measure => have := HK1.out; have := HK2.out; omega
                                      case rel => exact ⟨(ji19), (x738000_2), (x738001_2), (by first | rfl | (simp; done) | (simp only [← hji19] <;> (first | rfl | simp)) | (simp [*]; done)), H', ⟨by have := HK1.out; have := HK2.out; omega⟩, ⟨by (with_reducible repeat (first | refine blk_drewN ?_ _ | refine blk_drew ?_ | refine blk_alloc ?_ _)); exact BK737.out⟩, ⟨by repeat (first | (with_reducible first | exact HB.out | apply below_alloc | apply pw_below_drewN | apply below_drew1 | refine below_set ?_ GE737.out) | exact HB.out)⟩⟩
                                  · rw [if_neg c21] at H
                                    exact absurd H (by simp)
                                · rw [if_neg c20] at H
                                  exact absurd H (by simp)
                              · rw [if_neg c18] at H
                                exact absurd H (by simp)
                            · rw [if_neg c17] at H
                              exact absurd H (by simp)
                          · rw [if_neg c15] at H
                            have c15b0 : ((rdOf ByteArray.empty l0 x3_1).toList == (rdOf ByteArray.empty l1 x12_2).toList) = false := beq_eq_false_iff_ne.mpr c15
                            have c15b1 : ((rdOf ByteArray.empty l0 x3_1).toList != (rdOf ByteArray.empty l1 x12_2).toList) = true := bne_iff_ne.mpr c15
                            have H' := Aside0.mk H
                            clear H
                            have p740 : 0 ≤ (x3_1 : Int) := of_decide_eq_true (by first | (with_reducible assumption) | assumption)
                            have q740 : x3_1 < (l0.length : Int) := of_decide_eq_true (by first | (with_reducible assumption) | assumption)
                            obtain ⟨ad740, e740, hx740_0⟩ := Kd.at_string HR0.out x3_1 p740 q740
                            cases e740
                            replace hx740_0 := (HB.out.cell (World.block_lt_of_cell? w _ hx740_0)).trans hx740_0
                            replace p740 := eq_true p740
                            replace q740 := eq_true q740
                            have p741 : 0 ≤ (x12_2 : Int) := of_decide_eq_true (by first | (with_reducible assumption) | assumption)
                            have q741 : x12_2 < (l1.length : Int) := of_decide_eq_true (by first | (with_reducible assumption) | assumption)
                            obtain ⟨ad741, e741, hx741_0⟩ := Kd.at_string HR1.out x12_2 p741 q741
                            cases e741
                            replace hx741_0 := (HB.out.cell (World.block_lt_of_cell? w _ hx741_0)).trans hx741_0
                            replace p741 := eq_true p741
                            replace q741 := eq_true q741
                            go_wp2
                            repeat (go_quiet (fail); try go_wp2)
                            go_roundg k2
                            case measure => have := HK1.out; have := HK2.out; omega
                            case rel => exact ⟨(wrap64 (x12_2 + 1)), (x738000_2), (x738001_2), (by first | rfl | (simp; done) | (simp [*]; done)), H', ⟨by have := HK1.out; have := HK2.out; omega⟩, ⟨by (with_reducible repeat (first | refine blk_drewN ?_ _ | refine blk_drew ?_ | refine blk_alloc ?_ _)); exact BK737.out⟩, ⟨by repeat (first | (with_reducible first | exact HB.out | apply below_alloc | apply pw_below_drewN | apply below_drew1 | refine below_set ?_ GE737.out) | exact HB.out)⟩⟩
                        · rw [if_neg c14] at H
                          exact absurd H (by simp)
                      · rw [if_neg c13] at H
                        exact absurd H (by simp)
                    · rw [if_neg c12] at H
                      exact absurd H (by simp)
                  · rw [if_neg c11] at H
                    have c11b0 : decide (x12_2 < (l1.length : Int)) = false := decide_eq_false c11
                    clear c11
                    have H' := Aside0.mk H
                    clear H
                    go_wp2
                    repeat (go_quiet (fail); try go_wp2)
                    go_roundg k2
                    case measure => have := HK1.out; have := HK2.out; omega
                    case rel => exact ⟨(wrap64 (x3_1 + 1)), (x738000_2), (x738001_2), (by first | rfl | (simp; done) | (simp [*]; done)), H', ⟨by have := HK1.out; have := HK2.out; omega⟩, ⟨by (with_reducible repeat (first | refine blk_drewN ?_ _ | refine blk_drew ?_ | refine blk_alloc ?_ _)); exact BK737.out⟩, ⟨by repeat (first | (with_reducible first | exact HB.out | apply below_alloc | apply pw_below_drewN | apply below_drew1 | refine below_set ?_ GE737.out) | exact HB.out)⟩⟩
        · rw [if_neg c9] at H
          exact absurd H (by simp)
      · rw [if_neg c8] at H
        exact absurd H (by simp)
    · rw [if_neg c7] at H
      exact absurd H (by simp)
  · rw [if_neg c6] at H
    exact absurd H (by simp)

end Go.Proofs.Ytnajpgimhoighaa.Pr
