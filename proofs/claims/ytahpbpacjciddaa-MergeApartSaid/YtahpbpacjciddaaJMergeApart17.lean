/- Part 17 of the proof of MergeApart: texts put together. -/
import Derived.Test.YtahpbpacjciddaaJMergeApart4
import Derived.Test.YtahpbpacjciddaaJMergeApart10
set_option linter.unusedVariables false
set_option linter.unusedSimpArgs false
section
namespace Go.Proofs.Ytahpbpacjciddaa.Pr
open Go.RowKit Go.Proofs.YtahpbpacjciddaaW.PrintWords Go.Proofs.YtahpbpacjciddaaW.PrintLast Go.Proofs.YtahpbpacjciddaaW.PrintMore
attribute [local go_sem] max2_int min2_int max_two min_two max_three min_three max_four min_four   
def sidingref18_part.l0 : Nat → List ByteArray → List (S82) → Int → Int → List ByteArray → Int → Int → Option (List ByteArray)
  | 0, _, _, _, _, _, _, _ => none
  | k + 1, x0, x1, x2, x3, x9, x10, x11 => if x11 < (x1.length : Int) then (if 0 ≤ x11 then (if ((rd_T82 x1 x11).f0) < x2 then (sidingref18_part.l0 k x0 x1 x2 x3 x9 x10 (wrap64 (x11 + 1))) else (if (wrap64 (((rd_T82 x1 x11).f0) + (((rd_T82 x1 x11).f1).length : Int))) > x3 then (sidingref18_part.l0 k x0 x1 x2 x3 x9 x10 (wrap64 (x11 + 1))) else (if 0 ≤ x10 then (if x10 ≤ ((rd_T82 x1 x11).f0) then (if ((rd_T82 x1 x11).f0) ≤ (x0.length : Int) then (if x9.length + ((x0.take (((rd_T82 x1 x11).f0) : Int).toNat).drop (x10 : Int).toNat).length < 8796093022208 then ((some (x9 ++ ((x0.take (((rd_T82 x1 x11).f0) : Int).toNat).drop (x10 : Int).toNat) : List ByteArray)).bind fun y425 => (if y425.length + ((rd_T82 x1 x11).f2).length < 8796093022208 then (sidingref18_part.l0 k x0 x1 x2 x3 (y425 ++ ((rd_T82 x1 x11).f2)) (wrap64 (((rd_T82 x1 x11).f0) + (((rd_T82 x1 x11).f1).length : Int))) (wrap64 (x11 + 1))) else (none))) else (none)) else (none)) else (none)) else (none)))) else (none)) else (if 0 ≤ x10 then (if x10 ≤ x3 then (if x3 ≤ (x0.length : Int) then (if x9.length + ((x0.take (x3 : Int).toNat).drop (x10 : Int).toNat).length < 8796093022208 then (some (x9 ++ ((x0.take (x3 : Int).toNat).drop (x10 : Int).toNat))) else (none)) else (none)) else (none)) else (none))
def sidingref18_part.f (k : Nat) (l0 : List ByteArray) (l1 : List (S82)) (a2 : Int) (a3 : Int) : Option (List ByteArray) := sidingref18_part.l0 k l0 l1 a2 a3 ([] : List ByteArray) a2 0
def sidingref18_part.T8 : Bool × List (List Nat × List Nat) := (true, [([], []), ([], []), ([], []), ([], []), ([3], [3]), ([1, 2, 4], [1, 2, 4]), ([0, 5], [0, 5]), ([], []), ([7], [7]), ([6, 8, 6], [6, 8]), ([9, 9, 0, 1, 2, 3, 4, 5, 6, 7, 8, 9], [0, 9])])
def sidingref18_part.B8 : List Nat := [0, 0, 0, 0, 8, 30, 63, 0, 128, 511, 1023]
theorem sidingref18_part.tab8 : rtab .any (opsOf Try.f31 8) = sidingref18_part.T8 := by kernel_rfl
theorem sidingref18_part.bits8 : waitsOk sidingref18_part.T8.2 sidingref18_part.B8 = true := by kernel_rfl
set_option maxHeartbeats 8000000 in
set_option maxRecDepth 100000 in
theorem sidingref18_part.calls (k : Nat) (A0 : Option Addr) (c0 : Nat) (l0 : List ByteArray) (A1 : Option Addr) (c1 : Nat) (l1 : List (S82)) (a2 : Int) (a3 : Int) (r : List ByteArray) (w : World) (hr0 : Kd.C Kd.string w A0 l0.length l0) (hc0 : l0.length ≤ c0) (hr1 : Kd.C k82 w A1 l1.length l1) (hc1 : l1.length ≤ c1) (h : sidingref18_part.f k l0 l1 a2 a3 = some r) :
  Calls Try.prog 31 #[.slice A0 l0.length c0, .slice A1 l1.length c1, .int .i64 a2, .int .i64 a3] w fun e w' => ∃ v0_ : Value, e = .returned (v0_) ∧ Kd.R Kd.string 9 w' w.heap.size (fun _ => True) v0_ r ∧ Below w.heap.size w w' := by
 have hu82 := Try.underlying82
 have HR0 := Aside0.mk hr0
 have HC0 := Aside0.mk hc0
 clear hr0 hc0
 have HR1 := Aside0.mk hr1
 have HC1 := Aside0.mk hc1
 clear hr1 hc1
 have HB := Aside0.mk (Below.refl w.heap.size w)
 have H : (sidingref18_part.l0 k l0 l1 a2 a3 ([] : List ByteArray) a2 0) = some r := h
 clear h
 have H' := Aside0.mk H
 clear H
 go_enter Try.func31, Try.ntmps31
 go_wp2
 go_loopg [9, 10, 11] k (fun kq v9 v10 v11 w' => ∃ (x9_1 : List ByteArray) (x10_1 : Int) (x11_1 : Int), v10 = .int .i64 x10_1 ∧ v11 = .int .i64 x11_1 ∧ Aside0 (sidingref18_part.l0 kq l0 l1 a2 a3 x9_1 x10_1 x11_1 = some r) ∧ Aside0 (kq ≤ k) ∧ Aside0 (Kd.R Kd.string 9 w' w.heap.size (fun _ => True) v9 x9_1) ∧ Aside0 (Below w.heap.size w w'))
 case atStart => exact ⟨(([] : List ByteArray)), (a2), (0), (by first | rfl | (simp; done) | (simp [*]; done)), (by first | rfl | (simp; done) | (simp [*]; done)), H', ⟨Nat.le_refl _⟩, ⟨by first | exact Kd.R_nil _ _ _ _ _ | exact Kd.N_nil _ _ _ _ _ | exact Kd.V_nil _ _ _ _ _ | exact Kd.Q_nil _ _ _ _ _ | exact Kd.S_nil _ _ _ _ _⟩, ⟨by repeat (first | (with_reducible first | exact HB.out | apply below_alloc | apply pw_below_drewN | apply below_drew1) | exact HB.out)⟩⟩
 case round =>
  clear H'
  try clear c1
  try clear p2
  try clear c3
  obtain ⟨x9_1, x10_1, x11_1, rfl, rfl, HA, HK1, HO_9, HB⟩ := hrel
  cases gk with
  | zero => exact absurd HA.out (by simp [sidingref18_part.l0])
  | succ k1 =>
   have H := HA.out
   clear HA
   simp only [sidingref18_part.l0] at H
   by_cases c5 : x11_1 < (l1.length : Int)
   ·rw [if_pos c5] at H
    have c5b0 : decide (x11_1 < (l1.length : Int)) = true := decide_eq_true c5
    clear c5
    by_cases c6 : 0 ≤ x11_1
    ·rw [if_pos c6] at H
     have c6b0 : decide (0 ≤ x11_1) = true := decide_eq_true c6
     clear c6
     by_cases c7 : ((rd_T82 l1 x11_1).f0) < a2
     ·rw [if_pos c7] at H
      have c7b0 : decide (((rd_T82 l1 x11_1).f0) < a2) = true := decide_eq_true c7
      clear c7
      have H' := Aside0.mk H
      clear H
      have p422 : 0 ≤ (x11_1 : Int) := of_decide_eq_true (by first | (with_reducible assumption) | assumption)
      have q422 : x11_1 < (l1.length : Int) := of_decide_eq_true (by first | (with_reducible assumption) | assumption)
      obtain ⟨ad422, A422_1, c422_1, A422_2, c422_2, e422, hx422_0, hx422_1, hx422_2, hl422_1, hi422_1, hl422_2, hi422_2⟩ := at_T82 HR1.out x11_1 p422 q422
      cases e422
      replace hx422_0 := (HB.out.cell (World.block_lt_of_cell? w _ hx422_0)).trans hx422_0
      replace hx422_1 := (HB.out.cell (World.block_lt_of_cell? w _ hx422_1)).trans hx422_1
      replace hx422_2 := (HB.out.cell (World.block_lt_of_cell? w _ hx422_2)).trans hx422_2
      have HR422_1 := Aside0.mk hi422_1
      have HC422_1 := Aside0.mk hl422_1
      clear hi422_1 hl422_1
      have HR422_2 := Aside0.mk hi422_2
      have HC422_2 := Aside0.mk hl422_2
      clear hi422_2 hl422_2
      replace p422 := eq_true p422
      replace q422 := eq_true q422
      go_wp2_with (first | ((with_reducible refine gate_dst (N := 12) rfl ?_); (try (refine gate_guard (by rfl) ?_; dsimp only)); refine box_event ?hg (N := 12) ?hd (cs := #[.int .i64 0, .slice none 0 0, .slice none 0 0]) (t := 82) ?hr ?_; (case hd => rfl); (case hg => rfl); (case hr => first | (go_simp; done) | (go_simp; rfl)); intro gb423 hg w8 hbox hb; have n0_ := Aside0.mk (Kd.R_below (by (with_reducible repeat (first | apply Kd.R_alloc | apply Kd.R_drewN | apply Kd.R_drew)); exact HO_9.out) hb); have n1_ := Aside0.mk (below_step (by repeat (first | (with_reducible first | exact HB.out | apply below_alloc | apply pw_below_drewN | apply below_drew1) | exact HB.out)) hb); have n2_ := Aside0.mk (hbox); have n3_ := Aside0.mk ((by rw [hg]; exact (below_size (by repeat (first | (with_reducible first | exact HB.out | apply below_alloc | apply pw_below_drewN | apply below_drew1) | exact HB.out))) : w.heap.size ≤ gb423)); have n4_ := Aside0.mk ((by rw [hg]; exact (below_size (by repeat (first | (with_reducible first | exact HB.out | apply below_alloc | apply pw_below_drewN | apply below_drew1) | exact HB.out))) : w.heap.size ≤ gb423)); clear HO_9; clear HB; have HO_9 := n0_; have HB := n1_; have BK423 := n2_; have GW423 := n3_; have GE423 := n4_; clear n0_ n1_ n2_ n3_ n4_; clear hb hbox hg; have hcz9_0 : w8.cell? ⟨gb423, 0, none⟩ = some (.int .i64 0) := (blk_cell BK423.out 0).trans rfl; have hcz9_1 : w8.cell? ⟨gb423, 1, none⟩ = some (.slice none 0 0) := (blk_cell BK423.out 1).trans rfl; have hcz9_2 : w8.cell? ⟨gb423, 2, none⟩ = some (.slice none 0 0) := (blk_cell BK423.out 2).trans rfl; have hfz9_0 := blk_frozen BK423.out 0; have hfz9_1 := blk_frozen BK423.out 1; have hfz9_2 := blk_frozen BK423.out 2))
      go_roundg k1
      case measure => have := HK1.out; omega
      case rel => exact ⟨(x9_1), (x10_1), (wrap64 (x11_1 + 1)), (by first | rfl | (simp; done) | (simp [*]; done)), (by first | rfl | (simp; done) | (simp [*]; done)), H', ⟨by have := HK1.out; omega⟩, ⟨by (with_reducible repeat (first | apply Kd.R_alloc | apply Kd.R_drewN | apply Kd.R_drew)); exact Kd.R_mono (Kd.R_far (p := ⟨gb423, 2, none⟩) (Kd.R_far (p := ⟨gb423, 1, none⟩) (Kd.R_far (p := ⟨gb423, 0, none⟩) (Kd.R_types HO_9.out BK423.out (by decide)) (fun _ hk => hk.2) (.int .i64 ((rd_T82 l1 x11_1).f0))) (fun _ hk => hk.2) (.slice A422_1 ((rd_T82 l1 x11_1).f1).length c422_1)) (fun _ hk => hk.2) (.slice A422_2 ((rd_T82 l1 x11_1).f2).length c422_2)) (fun _ hk => trivial)⟩, ⟨by repeat (first | (with_reducible first | exact HB.out | apply below_alloc | apply pw_below_drewN | apply below_drew1 | refine below_set ?_ GE423.out) | exact HB.out)⟩⟩
     ·rw [if_neg c7] at H
      have c7b0 : decide (((rd_T82 l1 x11_1).f0) < a2) = false := decide_eq_false c7
      clear c7
      by_cases c10 : (wrap64 (((rd_T82 l1 x11_1).f0) + (((rd_T82 l1 x11_1).f1).length : Int))) > a3
      ·rw [if_pos c10] at H
       have c10b0 : decide (a3 < (wrap64 (((rd_T82 l1 x11_1).f0) + (((rd_T82 l1 x11_1).f1).length : Int)))) = true := decide_eq_true c10
       clear c10
       have H' := Aside0.mk H
       clear H
       have p422 : 0 ≤ (x11_1 : Int) := of_decide_eq_true (by first | (with_reducible assumption) | assumption)
       have q422 : x11_1 < (l1.length : Int) := of_decide_eq_true (by first | (with_reducible assumption) | assumption)
       obtain ⟨ad422, A422_1, c422_1, A422_2, c422_2, e422, hx422_0, hx422_1, hx422_2, hl422_1, hi422_1, hl422_2, hi422_2⟩ := at_T82 HR1.out x11_1 p422 q422
       cases e422
       replace hx422_0 := (HB.out.cell (World.block_lt_of_cell? w _ hx422_0)).trans hx422_0
       replace hx422_1 := (HB.out.cell (World.block_lt_of_cell? w _ hx422_1)).trans hx422_1
       replace hx422_2 := (HB.out.cell (World.block_lt_of_cell? w _ hx422_2)).trans hx422_2
       have HR422_1 := Aside0.mk hi422_1
       have HC422_1 := Aside0.mk hl422_1
       clear hi422_1 hl422_1
       have HR422_2 := Aside0.mk hi422_2
       have HC422_2 := Aside0.mk hl422_2
       clear hi422_2 hl422_2
       replace p422 := eq_true p422
       replace q422 := eq_true q422
       go_wp2_with (first | ((with_reducible refine gate_dst (N := 12) rfl ?_); (try (refine gate_guard (by rfl) ?_; dsimp only)); refine box_event ?hg (N := 12) ?hd (cs := #[.int .i64 0, .slice none 0 0, .slice none 0 0]) (t := 82) ?hr ?_; (case hd => rfl); (case hg => rfl); (case hr => first | (go_simp; done) | (go_simp; rfl)); intro gb423 hg w11 hbox hb; have n0_ := Aside0.mk (Kd.R_below (by (with_reducible repeat (first | apply Kd.R_alloc | apply Kd.R_drewN | apply Kd.R_drew)); exact HO_9.out) hb); have n1_ := Aside0.mk (below_step (by repeat (first | (with_reducible first | exact HB.out | apply below_alloc | apply pw_below_drewN | apply below_drew1) | exact HB.out)) hb); have n2_ := Aside0.mk (hbox); have n3_ := Aside0.mk ((by rw [hg]; exact (below_size (by repeat (first | (with_reducible first | exact HB.out | apply below_alloc | apply pw_below_drewN | apply below_drew1) | exact HB.out))) : w.heap.size ≤ gb423)); have n4_ := Aside0.mk ((by rw [hg]; exact (below_size (by repeat (first | (with_reducible first | exact HB.out | apply below_alloc | apply pw_below_drewN | apply below_drew1) | exact HB.out))) : w.heap.size ≤ gb423)); clear HO_9; clear HB; have HO_9 := n0_; have HB := n1_; have BK423 := n2_; have GW423 := n3_; have GE423 := n4_; clear n0_ n1_ n2_ n3_ n4_; clear hb hbox hg; have hcz12_0 : w11.cell? ⟨gb423, 0, none⟩ = some (.int .i64 0) := (blk_cell BK423.out 0).trans rfl; have hcz12_1 : w11.cell? ⟨gb423, 1, none⟩ = some (.slice none 0 0) := (blk_cell BK423.out 1).trans rfl; have hcz12_2 : w11.cell? ⟨gb423, 2, none⟩ = some (.slice none 0 0) := (blk_cell BK423.out 2).trans rfl; have hfz12_0 := blk_frozen BK423.out 0; have hfz12_1 := blk_frozen BK423.out 1; have hfz12_2 := blk_frozen BK423.out 2))
       go_roundg k1
       case measure => have := HK1.out; omega
       case rel => exact ⟨(x9_1), (x10_1), (wrap64 (x11_1 + 1)), (by first | rfl | (simp; done) | (simp [*]; done)), (by first | rfl | (simp; done) | (simp [*]; done)), H', ⟨by have := HK1.out; omega⟩, ⟨by (with_reducible repeat (first | apply Kd.R_alloc | apply Kd.R_drewN | apply Kd.R_drew)); exact Kd.R_mono (Kd.R_far (p := ⟨gb423, 2, none⟩) (Kd.R_far (p := ⟨gb423, 1, none⟩) (Kd.R_far (p := ⟨gb423, 0, none⟩) (Kd.R_types HO_9.out BK423.out (by decide)) (fun _ hk => hk.2) (.int .i64 ((rd_T82 l1 x11_1).f0))) (fun _ hk => hk.2) (.slice A422_1 ((rd_T82 l1 x11_1).f1).length c422_1)) (fun _ hk => hk.2) (.slice A422_2 ((rd_T82 l1 x11_1).f2).length c422_2)) (fun _ hk => trivial)⟩, ⟨by repeat (first | (with_reducible first | exact HB.out | apply below_alloc | apply pw_below_drewN | apply below_drew1 | refine below_set ?_ GE423.out) | exact HB.out)⟩⟩
      ·rw [if_neg c10] at H
       have c10b0 : decide (a3 < (wrap64 (((rd_T82 l1 x11_1).f0) + (((rd_T82 l1 x11_1).f1).length : Int)))) = false := decide_eq_false c10
       clear c10
       by_cases c13 : 0 ≤ x10_1
       ·rw [if_pos c13] at H
        have c13b0 := eq_true c13
        have c13b1 : decide (0 ≤ x10_1) = true := decide_eq_true c13
        clear c13
        by_cases c14 : x10_1 ≤ ((rd_T82 l1 x11_1).f0)
        ·rw [if_pos c14] at H
         have c14b0 := eq_true c14
         have c14b1 : decide (x10_1 ≤ ((rd_T82 l1 x11_1).f0)) = true := decide_eq_true c14
         clear c14
         by_cases c15 : ((rd_T82 l1 x11_1).f0) ≤ (l0.length : Int)
         ·rw [if_pos c15] at H
          have c15b0 := eq_true c15
          have c15b1 : decide (((rd_T82 l1 x11_1).f0) ≤ (l0.length : Int)) = true := decide_eq_true c15
          (try have c15m := Aside0.mk (Nat.min_eq_left (Int.toNat_le.2 c15)))
          clear c15
          by_cases c16 : x9_1.length + ((l0.take (((rd_T82 l1 x11_1).f0) : Int).toNat).drop (x10_1 : Int).toNat).length < 8796093022208
          ·rw [if_pos c16] at H
           have LMc16 := Aside0.mk c16
           clear c16
           obtain ⟨y425, hy425⟩ : ∃ y_ : List ByteArray, y_ = (x9_1 ++ ((l0.take (((rd_T82 l1 x11_1).f0) : Int).toNat).drop (x10_1 : Int).toNat)) := ⟨_, rfl⟩
           replace H : (if y425.length + ((rd_T82 l1 x11_1).f2).length < 8796093022208 then (sidingref18_part.l0 k1 l0 l1 a2 a3 (y425 ++ ((rd_T82 l1 x11_1).f2)) (wrap64 (((rd_T82 l1 x11_1).f0) + (((rd_T82 l1 x11_1).f1).length : Int))) (wrap64 (x11_1 + 1))) else (none)) = some r := by first | (rw [hy425]; with_reducible exact H) | (have H2_ := (Option.bind_some _ _).symm.trans H; rw [hy425]; with_reducible exact H2_) | (have H2_ := (Option.bind_some _ _).symm.trans H; with_reducible exact H2_) | with_reducible exact H | (rw [hy425]; exact H) | exact H
           have Ny425 := Aside0.mk hy425
           clear hy425
           by_cases c17 : y425.length + ((rd_T82 l1 x11_1).f2).length < 8796093022208
           ·rw [if_pos c17] at H
            have LMc17 := Aside0.mk c17
            clear c17
            obtain ⟨y428, hy428⟩ : ∃ y_ : List ByteArray, y_ = (y425 ++ ((rd_T82 l1 x11_1).f2)) := ⟨_, rfl⟩
            replace H : (sidingref18_part.l0 k1 l0 l1 a2 a3 y428 (wrap64 (((rd_T82 l1 x11_1).f0) + (((rd_T82 l1 x11_1).f1).length : Int))) (wrap64 (x11_1 + 1))) = some r := by first | (rw [hy428]; with_reducible exact H) | (have H2_ := (Option.bind_some _ _).symm.trans H; rw [hy428]; with_reducible exact H2_) | (have H2_ := (Option.bind_some _ _).symm.trans H; with_reducible exact H2_) | with_reducible exact H | (rw [hy428]; exact H) | exact H
            have Ny428 := Aside0.mk hy428
            clear hy428
            have H' := Aside0.mk H
            clear H
            have p422 : 0 ≤ (x11_1 : Int) := of_decide_eq_true (by first | (with_reducible assumption) | assumption)
            have q422 : x11_1 < (l1.length : Int) := of_decide_eq_true (by first | (with_reducible assumption) | assumption)
            obtain ⟨ad422, A422_1, c422_1, A422_2, c422_2, e422, hx422_0, hx422_1, hx422_2, hl422_1, hi422_1, hl422_2, hi422_2⟩ := at_T82 HR1.out x11_1 p422 q422
            cases e422
            replace hx422_0 := (HB.out.cell (World.block_lt_of_cell? w _ hx422_0)).trans hx422_0
            replace hx422_1 := (HB.out.cell (World.block_lt_of_cell? w _ hx422_1)).trans hx422_1
            replace hx422_2 := (HB.out.cell (World.block_lt_of_cell? w _ hx422_2)).trans hx422_2
            have HR422_1 := Aside0.mk hi422_1
            have HC422_1 := Aside0.mk hl422_1
            clear hi422_1 hl422_1
            have HR422_2 := Aside0.mk hi422_2
            have HC422_2 := Aside0.mk hl422_2
            clear hi422_2 hl422_2
            replace p422 := eq_true p422
            replace q422 := eq_true q422
            try go_wp2_with (first | ((with_reducible refine gate_dst (N := 12) rfl ?_); (try (refine gate_guard (by rfl) ?_; dsimp only)); refine box_event ?hg (N := 12) ?hd (cs := #[.int .i64 0, .slice none 0 0, .slice none 0 0]) (t := 82) ?hr ?_; (case hd => rfl); (case hg => rfl); (case hr => first | (go_simp; done) | (go_simp; rfl)); intro gb423 hg w18 hbox hb; have n0_ := Aside0.mk (Kd.R_below (by (with_reducible repeat (first | apply Kd.R_alloc | apply Kd.R_drewN | apply Kd.R_drew)); exact HO_9.out) hb); have n1_ := Aside0.mk (below_step (by repeat (first | (with_reducible first | exact HB.out | apply below_alloc | apply pw_below_drewN | apply below_drew1) | exact HB.out)) hb); have n2_ := Aside0.mk (hbox); have n3_ := Aside0.mk ((by rw [hg]; exact (below_size (by repeat (first | (with_reducible first | exact HB.out | apply below_alloc | apply pw_below_drewN | apply below_drew1) | exact HB.out))) : w.heap.size ≤ gb423)); have n4_ := Aside0.mk ((by rw [hg]; exact (below_size (by repeat (first | (with_reducible first | exact HB.out | apply below_alloc | apply pw_below_drewN | apply below_drew1) | exact HB.out))) : w.heap.size ≤ gb423)); clear HO_9; clear HB; have HO_9 := n0_; have HB := n1_; have BK423 := n2_; have GW423 := n3_; have GE423 := n4_; clear n0_ n1_ n2_ n3_ n4_; clear hb hbox hg; have hcz19_0 : w18.cell? ⟨gb423, 0, none⟩ = some (.int .i64 0) := (blk_cell BK423.out 0).trans rfl; have hcz19_1 : w18.cell? ⟨gb423, 1, none⟩ = some (.slice none 0 0) := (blk_cell BK423.out 1).trans rfl; have hcz19_2 : w18.cell? ⟨gb423, 2, none⟩ = some (.slice none 0 0) := (blk_cell BK423.out 2).trans rfl; have hfz19_0 := blk_frozen BK423.out 0; have hfz19_1 := blk_frozen BK423.out 1; have hfz19_2 := blk_frozen BK423.out 2))
            have n0_ : Aside0 (Kd.R Kd.string 9 (((w18.setCell ⟨gb423, 0, none⟩ (.int .i64 ((rd_T82 l1 x11_1).f0))).setCell ⟨gb423, 1, none⟩ (.slice A422_1 ((rd_T82 l1 x11_1).f1).length c422_1)).setCell ⟨gb423, 2, none⟩ (.slice A422_2 ((rd_T82 l1 x11_1).f2).length c422_2)) w.heap.size (fun _ => True) u9 x9_1) := ⟨by (with_reducible repeat (first | apply Kd.R_alloc | apply Kd.R_drewN | apply Kd.R_drew)); exact Kd.R_mono (Kd.R_far (p := ⟨gb423, 2, none⟩) (Kd.R_far (p := ⟨gb423, 1, none⟩) (Kd.R_far (p := ⟨gb423, 0, none⟩) (Kd.R_types HO_9.out BK423.out (by decide)) (fun _ hk => hk.2) (.int .i64 ((rd_T82 l1 x11_1).f0))) (fun _ hk => hk.2) (.slice A422_1 ((rd_T82 l1 x11_1).f1).length c422_1)) (fun _ hk => hk.2) (.slice A422_2 ((rd_T82 l1 x11_1).f2).length c422_2)) (fun _ hk => trivial)⟩
            have n1_ : Aside0 ((((w18.setCell ⟨gb423, 0, none⟩ (.int .i64 ((rd_T82 l1 x11_1).f0))).setCell ⟨gb423, 1, none⟩ (.slice A422_1 ((rd_T82 l1 x11_1).f1).length c422_1)).setCell ⟨gb423, 2, none⟩ (.slice A422_2 ((rd_T82 l1 x11_1).f2).length c422_2)).heap[gb423]? = some (.cells #[.int .i64 ((rd_T82 l1 x11_1).f0), .slice A422_1 ((rd_T82 l1 x11_1).f1).length c422_1, .slice A422_2 ((rd_T82 l1 x11_1).f2).length c422_2] 82 (0, 0))) := ⟨by (with_reducible repeat (first | refine blk_drewN ?_ _ | refine blk_drew ?_ | refine blk_alloc ?_ _)); refine blk_put (cs := #[.int .i64 ((rd_T82 l1 x11_1).f0), .slice A422_1 ((rd_T82 l1 x11_1).f1).length c422_1, .slice none 0 0]) ?_ 2 _ rfl; (with_reducible repeat (first | refine blk_drewN ?_ _ | refine blk_drew ?_ | refine blk_alloc ?_ _)); refine blk_put (cs := #[.int .i64 ((rd_T82 l1 x11_1).f0), .slice none 0 0, .slice none 0 0]) ?_ 1 _ rfl; (with_reducible repeat (first | refine blk_drewN ?_ _ | refine blk_drew ?_ | refine blk_alloc ?_ _)); refine blk_put (cs := #[.int .i64 0, .slice none 0 0, .slice none 0 0]) ?_ 0 _ rfl; (with_reducible repeat (first | refine blk_drewN ?_ _ | refine blk_drew ?_ | refine blk_alloc ?_ _)); exact BK423.out⟩
            have n2_ : Aside0 (Below w.heap.size w (((w18.setCell ⟨gb423, 0, none⟩ (.int .i64 ((rd_T82 l1 x11_1).f0))).setCell ⟨gb423, 1, none⟩ (.slice A422_1 ((rd_T82 l1 x11_1).f1).length c422_1)).setCell ⟨gb423, 2, none⟩ (.slice A422_2 ((rd_T82 l1 x11_1).f2).length c422_2))) := ⟨by repeat (first | (with_reducible first | exact HB.out | apply below_alloc | apply pw_below_drewN | apply below_drew1 | refine below_set ?_ GE423.out) | exact HB.out)⟩
            (try clear HO_9)
            (try clear BK423)
            (try clear HB)
            generalize (((w18.setCell ⟨gb423, 0, none⟩ (.int .i64 ((rd_T82 l1 x11_1).f0))).setCell ⟨gb423, 1, none⟩ (.slice A422_1 ((rd_T82 l1 x11_1).f1).length c422_1)).setCell ⟨gb423, 2, none⟩ (.slice A422_2 ((rd_T82 l1 x11_1).f2).length c422_2)) = w20 at n0_ n1_ n2_ ⊢
            have HO_9 := n0_
            have BK423 := n1_
            have HB := n2_
            clear n0_ n1_ n2_
            have n0_ := Aside0.mk (Kd.R_drew HO_9.out)
            have n1_ := Aside0.mk (blk_drew BK423.out)
            have n2_ := Aside0.mk (below_drew1 HB.out)
            clear HO_9
            clear BK423
            clear HB
            have HO_9 := n0_
            have BK423 := n1_
            have HB := n2_
            clear n0_ n1_ n2_
            obtain ⟨i022, hi022, _, hsz22, _⟩ := info_parts info9
            obtain ⟨A22, hcut22, hA22, hC22⟩ := print_mid_of (P := Try.prog) Value.string (⟨#[]⟩ : ByteArray) 22 9 .i64 .i64 Try.underlying22 hi022 hsz22 A0 c0 l0 x10_1 ((rd_T82 l1 x11_1).f0) (of_decide_eq_true (by first | (with_reducible assumption) | assumption)) (by first | omega | exact of_decide_eq_true (by first | (with_reducible assumption) | assumption)) (of_decide_eq_true (by first | (with_reducible assumption) | assumption)) HC0.out
            have HR424 := Aside0.mk (Kd.C_of_reads (h1 := fun _ => rfl) (hA22 _ (Kd.reads_of_C HR0.out)))
            have HC424 := Aside0.mk hC22
            clear hA22 hC22 hi022 hsz22
            refine start_ (n := 11) (S := fun w' => w'.cell? ⟨gb423, 0, none⟩ = some (.int .i64 ((rd_T82 l1 x11_1).f0)) ∧ w'.cell? ⟨gb423, 1, none⟩ = some (.slice A422_1 ((rd_T82 l1 x11_1).f1).length c422_1) ∧ w'.cell? ⟨gb423, 2, none⟩ = some (.slice A422_2 ((rd_T82 l1 x11_1).f2).length c422_2)) (ds := []) #[false, false, false, false, false, false, false, false, false, false, false] (by kernel_rfl) rfl rfl ⟨(blk_cell BK423.out 0).trans rfl, (blk_cell BK423.out 1).trans rfl, (blk_cell BK423.out 2).trans rfl⟩ (fun hHeld => ?_); refine with_tabW sidingref18_part.tab8 sidingref18_part.bits8 (fun HT_ HW_ => ?_)
            generalize w20.drew = w21 at HO_9 BK423 HB HR424 hHeld ⊢
            refine pure_ (i := 0) (N := some 38) (v := ?_) (a' := ?_) #[true, false, false, false, false, false, false, false, false, false, false] rfl rfl (any_of HT_.out (by kernel_rfl)) (fun _ _ _ h => h) (Or.inl ⟨by rfl, ?_⟩) ?_ ?_; rotate_left; (focus intro w'; go_simp; with_reducible rfl); rotate_left; (focus go_simp; rfl)
            refine pure_ (i := 1) (N := some 39) (v := ?_) (a' := ?_) #[true, true, false, false, false, false, false, false, false, false, false] rfl rfl (any_of HT_.out (by kernel_rfl)) (fun _ _ _ h => h) (Or.inl ⟨by rfl, ?_⟩) ?_ ?_; rotate_left; (focus intro w'; go_simp; with_reducible rfl); rotate_left; (focus go_simp; rfl)
            refine pure_ (i := 2) (N := some 40) (v := ?_) (a' := ?_) #[true, true, true, false, false, false, false, false, false, false, false] rfl rfl (any_of HT_.out (by kernel_rfl)) (fun _ _ _ h => h) (Or.inl ⟨by rfl, ?_⟩) ?_ ?_; rotate_left; (focus intro w'; go_simp; with_reducible rfl); rotate_left; (focus go_simp; rfl)
            refine pure_ (i := 3) (N := some 41) (v := ?_) (a' := ?_) #[true, true, true, true, false, false, false, false, false, false, false] rfl rfl (any_of HT_.out (by kernel_rfl)) (fun _ _ _ h => h) (Or.inl ⟨by rfl, ?_⟩) ?_ ?_; rotate_left; (focus intro w'; go_simp; with_reducible rfl); rotate_left; (focus go_simp; rfl)
            refine pure_ (i := 7) (N := some 45) (v := ?_) (a' := ?_) #[true, true, true, true, false, false, false, true, false, false, false] rfl rfl (any_of HT_.out (by kernel_rfl)) (fun _ _ _ h => h) (Or.inl ⟨by rfl, ?_⟩) ?_ ?_; rotate_left; (focus intro w'; go_simp; with_reducible rfl); rotate_left; (focus go_simp; rfl)
            refine take_ (i := 4) (N := some 42) (v := ?_) (a' := ?_) #[true, true, true, true, true, false, false, true, false, false, false] rfl rfl (take_ofW HT_.out HW_.out (by kernel_rfl)) (fun _ _ _ h => h) (Or.inl ⟨by rfl, ?_⟩) hHeld ?_ ?_; rotate_left; (focus rintro w' ⟨s0, s1, s2⟩; go_simp; with_reducible rfl); rotate_left; (focus go_simp; rfl)
            refine pure_ (i := 5) (N := some 43) (v := ?_) (a' := ?_) #[true, true, true, true, true, true, false, true, false, false, false] rfl rfl (any_of HT_.out (by kernel_rfl)) (fun _ _ _ h => h) (Or.inl ⟨by rfl, ?_⟩) ?_ ?_; rotate_left; (focus intro w'; go_simp; with_reducible rfl); rotate_left; (focus go_simp; rfl)
            refine take_ (i := 8) (N := some 46) (v := ?_) (a' := ?_) #[true, true, true, true, true, true, false, true, true, false, false] rfl rfl (take_ofW HT_.out HW_.out (by kernel_rfl)) (fun _ _ _ h => h) (Or.inl ⟨by rfl, ?_⟩) hHeld ?_ ?_; rotate_left; (focus rintro w' ⟨s0, s1, s2⟩; go_simp; with_reducible rfl); rotate_left; (focus go_simp; rfl)
            refine one_ (i := 6) (N := some 44) #[true, true, true, true, true, true, true, true, true, false, false] rfl rfl (one_of HT_.out (by kernel_rfl)) (by decide) (fun K hK => ?_)
            refine Kd.R_append_rows_step Kd.string (w0 := w) w.heap.size (by rfl) (.tmp 38) (.tmp 43) 22 9 (.string ⟨#[]⟩) 16 rfl Try.underlying22 info9 rfl (by decide) (by omega) u9 x9_1 ((l0.take (((rd_T82 l1 x11_1).f0) : Int).toNat).drop (x10_1 : Int).toNat) _ _ _ (fun _ => True) (fun _ => False) rfl rfl ?aO ?aR (fun _ _ h => h) (fun _ h => h.elim) ?aF ?aB ?aS ?aL ?_
            (case aR => first | (rw [← show ((l0.take (((rd_T82 l1 x11_1).f0) : Int).toNat).drop (x10_1 : Int).toNat).length = (((rd_T82 l1 x11_1).f0).toNat - x10_1.toNat) from (by rw [List.length_drop, List.length_take]; have h_ : (((rd_T82 l1 x11_1).f0) : Int) ≤ (l0.length : Int) := of_decide_eq_true (by first | (with_reducible assumption) | assumption); omega)]; repeat (first | exact (Kd.C_below HR424.out HB.out) | (with_reducible refine Kd.C_alloc ?_ _) | (with_reducible refine Kd.C_drewN ?_ _) | (with_reducible refine Kd.C_drew ?_))) | (repeat (first | exact (Kd.C_below HR424.out HB.out) | (with_reducible refine Kd.C_alloc ?_ _) | (with_reducible refine Kd.C_drewN ?_ _) | (with_reducible refine Kd.C_drew ?_))))
            (case aB => exact (by repeat (first | (with_reducible first | exact HB.out | apply below_alloc | apply pw_below_drewN | apply below_drew1 | refine below_set ?_ GE423.out) | exact HB.out)))
            (case aF => exact (fun _ _ => trivial))
            (case aO => exact (by (with_reducible repeat (first | apply Kd.R_alloc | apply Kd.R_drewN | apply Kd.R_drew)); exact HO_9.out))
            (case aS => exact (below_size (by repeat (first | (with_reducible first | exact HB.out | apply below_alloc | apply pw_below_drewN | apply below_drew1 | refine below_set ?_ GE423.out) | exact HB.out))))
            (case aL => have := LMc16.out; have hlx_ := (show ((l0.take (((rd_T82 l1 x11_1).f0) : Int).toNat).drop (x10_1 : Int).toNat).length = (((rd_T82 l1 x11_1).f0).toNat - x10_1.toNat) from (by rw [List.length_drop, List.length_take]; have h_ : (((rd_T82 l1 x11_1).f0) : Int) ≤ (l0.length : Int) := of_decide_eq_true (by first | (with_reducible assumption) | assumption); omega)); omega)
            intro v426 w23 ho hb hg hat
            rw [← Ny425.out] at ho
            have n0_ := Aside0.mk (blk_grown (g := gb423) (o := .cells #[.int .i64 ((rd_T82 l1 x11_1).f0), .slice A422_1 ((rd_T82 l1 x11_1).f1).length c422_1, .slice A422_2 ((rd_T82 l1 x11_1).f2).length c422_2] 82 (0, 0)) (by (with_reducible repeat (first | refine blk_drewN ?_ _ | refine blk_drew ?_ | refine blk_alloc ?_ _)); exact BK423.out) hg (Kd.R_ne HO_9.out BK423.out (by decide)))
            have n1_ := Aside0.mk (hb)
            have n2_ := Aside0.mk (ho)
            clear BK423
            clear HB
            clear HO_9
            have BK423 := n0_
            have HB := n1_
            have HO427 := n2_
            clear n0_ n1_ n2_
            clear ho hb hg hat
            refine hK.out _ _ ⟨(blk_cell BK423.out 0).trans rfl, (blk_cell BK423.out 1).trans rfl, (blk_cell BK423.out 2).trans rfl⟩ (fun hHeld => ?_)
            clear hK K
            refine norm_ (a' := ?_) ?_ ?_
            rotate_left
            ·show Act.put _ (some 44) _ = _
             simp only [Act.put, List.setIfInBounds_toArray, List.set_cons_zero, List.set_cons_succ, i64_w, i32_w]
             rfl
            refine one_ (i := 9) (N := some 47) #[true, true, true, true, true, true, true, true, true, true, false] rfl rfl (one_of HT_.out (by kernel_rfl)) (by decide) (fun K hK => ?_)
            refine Kd.R_append_rows_step Kd.string (w0 := w) w.heap.size (by rfl) (.tmp 44) (.tmp 46) 22 9 (.string ⟨#[]⟩) 16 rfl Try.underlying22 info9 rfl (by decide) (by omega) v426 y425 ((rd_T82 l1 x11_1).f2) _ _ _ (fun _ => True) (fun _ => False) rfl rfl ?aO ?aR (fun _ _ h => h) (fun _ h => h.elim) ?aF ?aB ?aS ?aL ?_
            (case aR => repeat (first | exact (Kd.C_below HR422_2.out HB.out) | (with_reducible refine Kd.C_alloc ?_ _) | (with_reducible refine Kd.C_drewN ?_ _) | (with_reducible refine Kd.C_drew ?_)))
            (case aB => exact (by repeat (first | (with_reducible first | exact HB.out | apply below_alloc | apply pw_below_drewN | apply below_drew1 | refine below_set ?_ GE423.out) | exact HB.out)))
            (case aF => exact (fun _ _ => trivial))
            (case aO => exact (by (with_reducible repeat (first | apply Kd.R_alloc | apply Kd.R_drewN | apply Kd.R_drew)); exact HO427.out))
            (case aS => exact (below_size (by repeat (first | (with_reducible first | exact HB.out | apply below_alloc | apply pw_below_drewN | apply below_drew1 | refine below_set ?_ GE423.out) | exact HB.out))))
            (case aL => have := LMc17.out; omega)
            intro v429 w24 ho hb hg hat
            rw [← Ny428.out] at ho
            have n0_ := Aside0.mk (blk_grown (g := gb423) (o := .cells #[.int .i64 ((rd_T82 l1 x11_1).f0), .slice A422_1 ((rd_T82 l1 x11_1).f1).length c422_1, .slice A422_2 ((rd_T82 l1 x11_1).f2).length c422_2] 82 (0, 0)) (by (with_reducible repeat (first | refine blk_drewN ?_ _ | refine blk_drew ?_ | refine blk_alloc ?_ _)); exact BK423.out) hg (Kd.R_ne HO427.out BK423.out (by decide)))
            have n1_ := Aside0.mk (hb)
            have n2_ := Aside0.mk (ho)
            clear BK423
            clear HB
            clear HO427
            have BK423 := n0_
            have HB := n1_
            have HO430 := n2_
            clear n0_ n1_ n2_
            clear ho hb hg hat
            refine hK.out _ _ ⟨(blk_cell BK423.out 0).trans rfl, (blk_cell BK423.out 1).trans rfl, (blk_cell BK423.out 2).trans rfl⟩ (fun hHeld => ?_)
            clear hK K
            refine norm_ (a' := ?_) ?_ ?_
            rotate_left
            ·show Act.put _ (some 47) _ = _
             simp only [Act.put, List.setIfInBounds_toArray, List.set_cons_zero, List.set_cons_succ, i64_w, i32_w]
             rfl
            refine pure_ (i := 10) (N := some 9) (v := ?_) (a' := ?_) #[true, true, true, true, true, true, true, true, true, true, true] rfl rfl (any_of HT_.out (by kernel_rfl)) (fun _ _ _ h => h) (Or.inl ⟨by rfl, ?_⟩) ?_ ?_; rotate_left; (focus intro w'; go_simp; with_reducible rfl); rotate_left; (focus go_simp; rfl)
            refine done_ (done_of HT_.out (by kernel_rfl)) ?_
            have hcz25_0 : w24.cell? ⟨gb423, 0, none⟩ = some (.int .i64 ((rd_T82 l1 x11_1).f0)) := (blk_cell BK423.out 0).trans rfl
            have hcz25_1 : w24.cell? ⟨gb423, 1, none⟩ = some (.slice A422_1 ((rd_T82 l1 x11_1).f1).length c422_1) := (blk_cell BK423.out 1).trans rfl
            have hcz25_2 : w24.cell? ⟨gb423, 2, none⟩ = some (.slice A422_2 ((rd_T82 l1 x11_1).f2).length c422_2) := (blk_cell BK423.out 2).trans rfl
            have hfz25_0 := blk_frozen BK423.out 0
            have hfz25_1 := blk_frozen BK423.out 1
            have hfz25_2 := blk_frozen BK423.out 2
            try go_wp2
            go_roundg k1
            case measure => have := HK1.out; omega
            case rel => exact ⟨(y428), (wrap64 (((rd_T82 l1 x11_1).f0) + (((rd_T82 l1 x11_1).f1).length : Int))), (wrap64 (x11_1 + 1)), (by first | rfl | (simp; done) | (simp [*]; done)), (by first | rfl | (simp; done) | (simp [*]; done)), H', ⟨by have := HK1.out; omega⟩, ⟨by (with_reducible repeat (first | apply Kd.R_alloc | apply Kd.R_drewN | apply Kd.R_drew)); exact HO430.out⟩, ⟨by repeat (first | (with_reducible first | exact HB.out | apply below_alloc | apply pw_below_drewN | apply below_drew1 | refine below_set ?_ GE423.out) | exact HB.out)⟩⟩
           ·rw [if_neg c17] at H
            exact absurd H (by simp)
          ·rw [if_neg c16] at H
           exact absurd H (by simp)
         ·rw [if_neg c15] at H
          exact absurd H (by simp)
        ·rw [if_neg c14] at H
         exact absurd H (by simp)
       ·rw [if_neg c13] at H
        exact absurd H (by simp)
    ·rw [if_neg c6] at H
     exact absurd H (by simp)
   ·rw [if_neg c5] at H
    have c5b0 : decide (x11_1 < (l1.length : Int)) = false := decide_eq_false c5
    clear c5
    by_cases c26 : 0 ≤ x10_1
    ·rw [if_pos c26] at H
     have c26b0 := eq_true c26
     have c26b1 : decide (0 ≤ x10_1) = true := decide_eq_true c26
     clear c26
     by_cases c27 : x10_1 ≤ a3
     ·rw [if_pos c27] at H
      have c27b0 := eq_true c27
      have c27b1 : decide (x10_1 ≤ a3) = true := decide_eq_true c27
      clear c27
      by_cases c28 : a3 ≤ (l0.length : Int)
      ·rw [if_pos c28] at H
       have c28b0 := eq_true c28
       have c28b1 : decide (a3 ≤ (l0.length : Int)) = true := decide_eq_true c28
       (try have c28m := Aside0.mk (Nat.min_eq_left (Int.toNat_le.2 c28)))
       clear c28
       by_cases c29 : x9_1.length + ((l0.take (a3 : Int).toNat).drop (x10_1 : Int).toNat).length < 8796093022208
       ·rw [if_pos c29] at H
        have LMc29 := Aside0.mk c29
        clear c29
        obtain ⟨y432, hy432⟩ : ∃ y_ : List ByteArray, y_ = (x9_1 ++ ((l0.take (a3 : Int).toNat).drop (x10_1 : Int).toNat)) := ⟨_, rfl⟩
        replace H : (some y432) = some r := by first | (rw [hy432]; with_reducible exact H) | (have H2_ := (Option.bind_some _ _).symm.trans H; rw [hy432]; with_reducible exact H2_) | (have H2_ := (Option.bind_some _ _).symm.trans H; with_reducible exact H2_) | with_reducible exact H | (rw [hy432]; exact H) | exact H
        have Ny432 := Aside0.mk hy432
        clear hy432
        obtain rfl := Option.some.inj H
        obtain ⟨i030, hi030, _, hsz30, _⟩ := info_parts info9
        obtain ⟨A30, hcut30, hA30, hC30⟩ := print_mid_of (P := Try.prog) Value.string (⟨#[]⟩ : ByteArray) 22 9 .i64 .i64 Try.underlying22 hi030 hsz30 A0 c0 l0 x10_1 a3 (of_decide_eq_true (by first | (with_reducible assumption) | assumption)) (by first | omega | exact of_decide_eq_true (by first | (with_reducible assumption) | assumption)) (of_decide_eq_true (by first | (with_reducible assumption) | assumption)) HC0.out
        have HR431 := Aside0.mk (Kd.C_of_reads (h1 := fun _ => rfl) (hA30 _ (Kd.reads_of_C HR0.out)))
        have HC431 := Aside0.mk hC30
        clear hA30 hC30 hi030 hsz30
        go_wp2_with (first | ((with_reducible refine gate_builtin (b := .append) (xs := #[.tmp 54, .tmp 58]) rfl ?_); (try (refine gate_guard (by rfl) ?_; dsimp only)); at_builtin; refine Kd.R_append_rows Kd.string (w0 := w) w.heap.size rfl (.tmp 54) (.tmp 58) 22 9 (.string ⟨#[]⟩) 16 rfl Try.underlying22 info9 rfl (by decide) (by omega) u9 x9_1 ((l0.take (a3 : Int).toNat).drop (x10_1 : Int).toNat) _ _ _ (fun _ => True) (fun _ => False) rfl rfl ?aO ?aR (fun _ _ h => h) (fun _ h => h.elim) ?aF ?aB ?aS ?aL ?_; (case aR => first | (rw [← show ((l0.take (a3 : Int).toNat).drop (x10_1 : Int).toNat).length = (a3.toNat - x10_1.toNat) from (by rw [List.length_drop, List.length_take]; have h_ : (a3 : Int) ≤ (l0.length : Int) := of_decide_eq_true (by first | (with_reducible assumption) | assumption); omega)]; repeat (first | exact (Kd.C_below HR431.out HB.out) | (with_reducible refine Kd.C_alloc ?_ _) | (with_reducible refine Kd.C_drewN ?_ _) | (with_reducible refine Kd.C_drew ?_))) | (repeat (first | exact (Kd.C_below HR431.out HB.out) | (with_reducible refine Kd.C_alloc ?_ _) | (with_reducible refine Kd.C_drewN ?_ _) | (with_reducible refine Kd.C_drew ?_)))); (case aB => exact (by repeat (first | (with_reducible first | exact HB.out | apply below_alloc | apply pw_below_drewN | apply below_drew1) | exact HB.out))); (case aF => exact (fun _ _ => trivial)); (case aO => exact (by (with_reducible repeat (first | apply Kd.R_alloc | apply Kd.R_drewN | apply Kd.R_drew)); exact HO_9.out)); (case aS => exact (below_size (by repeat (first | (with_reducible first | exact HB.out | apply below_alloc | apply pw_below_drewN | apply below_drew1) | exact HB.out)))); (case aL => have := LMc29.out; have hlx_ := (show ((l0.take (a3 : Int).toNat).drop (x10_1 : Int).toNat).length = (a3.toNat - x10_1.toNat) from (by rw [List.length_drop, List.length_take]; have h_ : (a3 : Int) ≤ (l0.length : Int) := of_decide_eq_true (by first | (with_reducible assumption) | assumption); omega)); omega); intro v433 w31 ho hb hg hat; rw [← Ny432.out] at ho; have n0_ := Aside0.mk (hb); have n1_ := Aside0.mk (ho); clear HB; clear HO_9; have HB := n0_; have HO434 := n1_; clear n0_ n1_; clear ho hb hg hat))
        go_ret
        exact ⟨_, by first | rfl | (simp [errW_none, errW_some] <;> rfl) | (simp [*, errW_none, errW_some] <;> rfl), by (with_reducible repeat (first | apply Kd.R_alloc | apply Kd.R_drewN | apply Kd.R_drew)); exact HO434.out, by repeat (first | (with_reducible first | exact HB.out | apply below_alloc | apply pw_below_drewN | apply below_drew1) | exact HB.out)⟩
       ·rw [if_neg c29] at H
        exact absurd H (by simp)
      ·rw [if_neg c28] at H
       exact absurd H (by simp)
     ·rw [if_neg c27] at H
      exact absurd H (by simp)
    ·rw [if_neg c26] at H
     exact absurd H (by simp)
end Go.Proofs.Ytahpbpacjciddaa.Pr
end
section
namespace Go.Proofs.Ytahpbpacjciddaa.Pr
open Go.RowKit Go.Proofs.YtahpbpacjciddaaW.PrintWords Go.Proofs.YtahpbpacjciddaaW.PrintLast Go.Proofs.YtahpbpacjciddaaW.PrintMore
attribute [local go_sem] max2_int min2_int max_two min_two max_three min_three max_four min_four   
def sidingref18_Kind.j0 : Nat → Bool → Bool → Bool → Bool → Option (Int)
 | 0, _, _, _, _ => none
 | k + 1, x7, x8, x9, x19 => if x19 = true then (some 1) else (if x7 = true then (some 4) else (if x8 = true then (some 2) else (if x9 = true then (some 3) else (some 5))))
def sidingref18_Kind.f (k : Nat) (l0 : List ByteArray) (l1 : List ByteArray) (l2 : List ByteArray) : Option (Int) := (sidingref13_Same.f k l1 l2).bind fun t285 => ((sidingref13_Same.f k l2 l0).bind fun t286 => ((sidingref13_Same.f k l1 l0).bind fun t287 => (if t285 = true then (sidingref18_Kind.j0 k t285 t286 t287 t286) else (sidingref18_Kind.j0 k t285 t286 t287 false))))
set_option maxHeartbeats 8000000 in
set_option maxRecDepth 100000 in
theorem sidingref18_Kind.calls (k : Nat) (A0 : Option Addr) (c0 : Nat) (l0 : List ByteArray) (A1 : Option Addr) (c1 : Nat) (l1 : List ByteArray) (A2 : Option Addr) (c2 : Nat) (l2 : List ByteArray) (r : Int) (w : World) (hr0 : Kd.C Kd.string w A0 l0.length l0) (hc0 : l0.length ≤ c0) (hr1 : Kd.C Kd.string w A1 l1.length l1) (hc1 : l1.length ≤ c1) (hr2 : Kd.C Kd.string w A2 l2.length l2) (hc2 : l2.length ≤ c2) (h : sidingref18_Kind.f k l0 l1 l2 = some r) :
  Calls Try.prog 32 #[.slice A0 l0.length c0, .slice A1 l1.length c1, .slice A2 l2.length c2] w fun e w' => e = .returned (.int .u8 r) ∧ Drawn0 w w' := by
 have HR0 := Aside0.mk hr0
 have HC0 := Aside0.mk hc0
 clear hr0 hc0
 have HR1 := Aside0.mk hr1
 have HC1 := Aside0.mk hc1
 clear hr1 hc1
 have HR2 := Aside0.mk hr2
 have HC2 := Aside0.mk hc2
 clear hr2 hc2
 have H : ((sidingref13_Same.f k l1 l2).bind fun t285 => ((sidingref13_Same.f k l2 l0).bind fun t286 => ((sidingref13_Same.f k l1 l0).bind fun t287 => (if t285 = true then (sidingref18_Kind.j0 k t285 t286 t287 t286) else (sidingref18_Kind.j0 k t285 t286 t287 false))))) = some r := h
 clear h
 replace H := Option.bind_eq_some_iff.mp H
 obtain ⟨t285, A40, H⟩ := H
 replace H : ((sidingref13_Same.f k l2 l0).bind fun t286 => ((sidingref13_Same.f k l1 l0).bind fun t287 => (if t285 = true then (sidingref18_Kind.j0 k t285 t286 t287 t286) else (sidingref18_Kind.j0 k t285 t286 t287 false)))) = some r := H
 have A4 := Aside0.mk A40
 clear A40
 replace H := Option.bind_eq_some_iff.mp H
 obtain ⟨t286, A50, H⟩ := H
 replace H : ((sidingref13_Same.f k l1 l0).bind fun t287 => (if t285 = true then (sidingref18_Kind.j0 k t285 t286 t287 t286) else (sidingref18_Kind.j0 k t285 t286 t287 false))) = some r := H
 have A5 := Aside0.mk A50
 (try have sameA5 := (Option.some.inj (A4.out.symm.trans A5.out) : t285 = t286))
 clear A50
 replace H := Option.bind_eq_some_iff.mp H
 obtain ⟨t287, A60, H⟩ := H
 replace H : (if t285 = true then (sidingref18_Kind.j0 k t285 t286 t287 t286) else (sidingref18_Kind.j0 k t285 t286 t287 false)) = some r := H
 have A6 := Aside0.mk A60
 (try have sameA6 := (Option.some.inj (A5.out.symm.trans A6.out) : t286 = t287))
 clear A60
 have HC7 := Aside0.mk H
 clear H
 go_enter Try.func32, Try.ntmps32
 go_upto_region 2 with (first | ((with_reducible refine gate_callee (f := 12) rfl ?_); refine goesL_ (some 12) rfl rfl Try.func12 (by kernel_rfl) rfl #[.slice A1 l1.length c1, .slice A2 l2.length c2] rfl (by (try simp only [List.map_toArray, List.map_cons, List.map_nil]); first | done | rfl | (simp only [List.length_drop, List.length_take]; rfl)) ?_; (with_reducible refine (sidingref13_Same.calls k _ _ l1 _ _ l2 t285 _ ?side1 ?side2 ?side3 ?side4 A4.out).mono ?_); (case side1 => repeat (first | exact HR1.out | (with_reducible refine Kd.C_alloc ?_ _) | (with_reducible refine Kd.C_drewN ?_ _) | (with_reducible refine Kd.C_drew ?_))); (case side2 => exact HC1.out); (case side3 => repeat (first | exact HR2.out | (with_reducible refine Kd.C_alloc ?_ _) | (with_reducible refine Kd.C_drewN ?_ _) | (with_reducible refine Kd.C_drew ?_))); (case side4 => exact HC2.out); rintro e w' ⟨rfl, ⟨nd, rfl⟩⟩; refine ⟨_, rfl, ?_⟩) | ((with_reducible refine gate_callee (f := 12) rfl ?_); refine goesL_ (some 15) rfl rfl Try.func12 (by kernel_rfl) rfl #[.slice A2 l2.length c2, .slice A0 l0.length c0] rfl (by (try simp only [List.map_toArray, List.map_cons, List.map_nil]); first | done | rfl | (simp only [List.length_drop, List.length_take]; rfl)) ?_; (with_reducible refine (sidingref13_Same.calls k _ _ l2 _ _ l0 t286 _ ?side1 ?side2 ?side3 ?side4 A5.out).mono ?_); (case side1 => repeat (first | exact HR2.out | (with_reducible refine Kd.C_alloc ?_ _) | (with_reducible refine Kd.C_drewN ?_ _) | (with_reducible refine Kd.C_drew ?_))); (case side2 => exact HC2.out); (case side3 => repeat (first | exact HR0.out | (with_reducible refine Kd.C_alloc ?_ _) | (with_reducible refine Kd.C_drewN ?_ _) | (with_reducible refine Kd.C_drew ?_))); (case side4 => exact HC0.out); rintro e w' ⟨rfl, ⟨nd, rfl⟩⟩; refine ⟨_, rfl, ?_⟩) | ((with_reducible refine gate_callee (f := 12) rfl ?_); refine goesL_ (some 18) rfl rfl Try.func12 (by kernel_rfl) rfl #[.slice A1 l1.length c1, .slice A0 l0.length c0] rfl (by (try simp only [List.map_toArray, List.map_cons, List.map_nil]); first | done | rfl | (simp only [List.length_drop, List.length_take]; rfl)) ?_; (with_reducible refine (sidingref13_Same.calls k _ _ l1 _ _ l0 t287 _ ?side1 ?side2 ?side3 ?side4 A6.out).mono ?_); (case side1 => repeat (first | exact HR1.out | (with_reducible refine Kd.C_alloc ?_ _) | (with_reducible refine Kd.C_drewN ?_ _) | (with_reducible refine Kd.C_drew ?_))); (case side2 => exact HC1.out); (case side3 => repeat (first | exact HR0.out | (with_reducible refine Kd.C_alloc ?_ _) | (with_reducible refine Kd.C_drewN ?_ _) | (with_reducible refine Kd.C_drew ?_))); (case side4 => exact HC0.out); rintro e w' ⟨rfl, ⟨nd, rfl⟩⟩; refine ⟨_, rfl, ?_⟩))
 (try simp only [Act.put, List.setIfInBounds_toArray, List.set_cons_zero, List.set_cons_succ])
 go_cut [19] (fun v19 wc => ∃ (kq : Nat) (x19_6 : Bool), v19 = .bool x19_6 ∧ Aside0 (sidingref18_Kind.j0 kq t285 t286 t287 x19_6 = some r) ∧ Aside0 (kq ≤ k) ∧ Drawn0 w wc)
 case first =>
  have H := HC7.out
  clear HC7
  by_cases c8 : t285 = true
  ·subst c8
   have H1 : (sidingref18_Kind.j0 k true t286 t287 t286) = some r := by rw [if_pos rfl] at H; exact H
   clear H
   have H := H1
   clear H1
   have H' := Aside0.mk H
   clear H
   go_wp2
   go_meet
   case rel => exact ⟨_, (t286), (by first | rfl | (simp; done) | (simp [*]; done)), H', ⟨by first | omega | exact Nat.le_refl _⟩, by repeat (first | exact Drawn0.refl _ | apply Drawn0.step)⟩
  ·replace c8 := Bool.eq_false_iff.mpr c8
   subst c8
   have H1 : (sidingref18_Kind.j0 k false t286 t287 false) = some r := by rw [if_neg (show ¬ (false = true) by decide)] at H; exact H
   clear H
   have H := H1
   clear H1
   have H' := Aside0.mk H
   clear H
   go_wp2
   go_meet
   case rel => exact ⟨_, (false), (by first | rfl | (simp; done) | (simp [*]; done)), H', ⟨by first | omega | exact Nat.le_refl _⟩, by repeat (first | exact Drawn0.refl _ | apply Drawn0.step)⟩
 case rest =>
  clear HC7
  try clear c1
  try clear c2
  try clear p2
  try clear c3
  try clear c8
  obtain ⟨kq, x19_6, rfl, HA, HJ6, ⟨mc6, rfl⟩⟩ := hcut
  cases kq with
  | zero => exact absurd HA.out (by simp [sidingref18_Kind.j0])
  | succ kj6 =>
   have H := HA.out
   clear HA
   simp only [sidingref18_Kind.j0] at H
   by_cases c9 : x19_6 = true
   ·subst c9
    have H1 : (some 1) = some r := by rw [if_pos rfl] at H; exact H
    clear H
    have H := H1
    clear H1
    obtain rfl := Option.some.inj H
    go_wp2
    go_ret
    (try rw [sameA5])
    (try rw [sameA6])
    exact ⟨by first | rfl | (simp; done) | (simp [*]; done), by repeat (first | exact Drawn0.refl _ | apply Drawn0.step)⟩
   ·replace c9 := Bool.eq_false_iff.mpr c9
    subst c9
    have H1 : (if t285 = true then (some 4) else (if t286 = true then (some 2) else (if t287 = true then (some 3) else (some 5)))) = some r := by rw [if_neg (show ¬ (false = true) by decide)] at H; exact H
    clear H
    have H := H1
    clear H1
    by_cases c10 : t285 = true
    ·subst c10
     have H1 : (some 4) = some r := by rw [if_pos rfl] at H; exact H
     clear H
     have H := H1
     clear H1
     obtain rfl := Option.some.inj H
     go_wp2
     go_ret
     (try rw [sameA5])
     (try rw [sameA6])
     exact ⟨by first | rfl | (simp; done) | (simp [*]; done), by repeat (first | exact Drawn0.refl _ | apply Drawn0.step)⟩
    ·replace c10 := Bool.eq_false_iff.mpr c10
     subst c10
     have H1 : (if t286 = true then (some 2) else (if t287 = true then (some 3) else (some 5))) = some r := by rw [if_neg (show ¬ (false = true) by decide)] at H; exact H
     clear H
     have H := H1
     clear H1
     by_cases c11 : t286 = true
     ·subst c11
      have H1 : (some 2) = some r := by rw [if_pos rfl] at H; exact H
      clear H
      have H := H1
      clear H1
      obtain rfl := Option.some.inj H
      go_wp2
      go_ret
      (try rw [sameA5])
      (try rw [sameA6])
      exact ⟨by first | rfl | (simp; done) | (simp [*]; done), by repeat (first | exact Drawn0.refl _ | apply Drawn0.step)⟩
     ·replace c11 := Bool.eq_false_iff.mpr c11
      subst c11
      have H1 : (if t287 = true then (some 3) else (some 5)) = some r := by rw [if_neg (show ¬ (false = true) by decide)] at H; exact H
      clear H
      have H := H1
      clear H1
      by_cases c12 : t287 = true
      ·subst c12
       have H1 : (some 3) = some r := by rw [if_pos rfl] at H; exact H
       clear H
       have H := H1
       clear H1
       obtain rfl := Option.some.inj H
       go_wp2
       go_ret
       (try rw [sameA5])
       (try rw [sameA6])
       exact ⟨by first | rfl | (simp; done) | (simp [*]; done), by repeat (first | exact Drawn0.refl _ | apply Drawn0.step)⟩
      ·replace c12 := Bool.eq_false_iff.mpr c12
       subst c12
       have H1 : (some 5) = some r := by rw [if_neg (show ¬ (false = true) by decide)] at H; exact H
       clear H
       have H := H1
       clear H1
       obtain rfl := Option.some.inj H
       go_wp2
       go_ret
       (try rw [sameA5])
       (try rw [sameA6])
       exact ⟨by first | rfl | (simp; done) | (simp [*]; done), by repeat (first | exact Drawn0.refl _ | apply Drawn0.step)⟩
end Go.Proofs.Ytahpbpacjciddaa.Pr
end
