/- Part 5 of the proof of HunkWide: texts put together. -/
import Derived.Test.YtognfinkolpemaaDoorJHunkWide3
import Derived.Test.YtognfinkolpemaaDoorJHunkWide4
set_option linter.unusedVariables false
set_option linter.unusedSimpArgs false
section
namespace Go.Proofs.YtognfinkolpemaaDoor.Pr
open Go.RowKit Go.Proofs.YtognfinkolpemaaDoorW.PrintWords Go.Proofs.YtognfinkolpemaaDoorW.PrintLast Go.Proofs.YtognfinkolpemaaDoorW.PrintMore
attribute [local go_sem] max2_int min2_int max_two min_two max_three min_three max_four min_four   
def hunk_valid.f (a0_0 : Int) (l0_1 : List ByteArray) (l0_2 : List ByteArray) : Option (Bool) := if a0_0 ≥ 0 then (if a0_0 ≤ 60 then ((hunk_plain.f l0_1).bind fun t273 => (if t273 = true then ((hunk_plain.f l0_2).bind fun t274 => (if t274 = true then (some (decide ((wrap64 ((l0_1.length : Int) + (l0_2.length : Int))) > 0))) else (some false))) else (some false))) else (some false)) else (some false)
set_option maxHeartbeats 8000000 in
set_option maxRecDepth 100000 in
theorem hunk_valid.calls (a0_0 : Int) (A0_1 : Option Addr) (c0_1 : Nat) (l0_1 : List ByteArray) (A0_2 : Option Addr) (c0_2 : Nat) (l0_2 : List ByteArray) (r : Bool) (w : World) (hr0_1 : Kd.C Kd.string w A0_1 l0_1.length l0_1) (hc0_1 : l0_1.length ≤ c0_1) (hr0_2 : Kd.C Kd.string w A0_2 l0_2.length l0_2) (hc0_2 : l0_2.length ≤ c0_2) (h : hunk_valid.f a0_0 l0_1 l0_2 = some r) :
  Calls Tryd.prog 26 #[.agg #[.int .i64 a0_0, .slice A0_1 l0_1.length c0_1, .slice A0_2 l0_2.length c0_2]] w fun e w' => e = .returned (.bool r) ∧ Below w.heap.size w w' := by
 have hu36 := Tryd.underlying36
 have HR0_1 := Aside0.mk hr0_1
 have HC0_1 := Aside0.mk hc0_1
 clear hr0_1 hc0_1
 have HR0_2 := Aside0.mk hr0_2
 have HC0_2 := Aside0.mk hc0_2
 clear hr0_2 hc0_2
 have HB := Aside0.mk (Below.refl w.heap.size w)
 have H : (if a0_0 ≥ 0 then (if a0_0 ≤ 60 then ((hunk_plain.f l0_1).bind fun t273 => (if t273 = true then ((hunk_plain.f l0_2).bind fun t274 => (if t274 = true then (some (decide ((wrap64 ((l0_1.length : Int) + (l0_2.length : Int))) > 0))) else (some false))) else (some false))) else (some false)) else (some false)) = some r := h
 clear h
 by_cases c2 : a0_0 ≥ 0
 ·rw [if_pos c2] at H
  have c2b0 : decide (0 ≤ a0_0) = true := decide_eq_true c2
  clear c2
  by_cases c3 : a0_0 ≤ 60
  ·rw [if_pos c3] at H
   have c3b0 : decide (a0_0 ≤ 60) = true := decide_eq_true c3
   clear c3
   replace H := Option.bind_eq_some_iff.mp H
   obtain ⟨t273, A40, H⟩ := H
   replace H : (if t273 = true then ((hunk_plain.f l0_2).bind fun t274 => (if t274 = true then (some (decide ((wrap64 ((l0_1.length : Int) + (l0_2.length : Int))) > 0))) else (some false))) else (some false)) = some r := H
   have A4 := Aside0.mk A40
   clear A40
   by_cases c5 : t273 = true
   ·subst c5
    have H1 : ((hunk_plain.f l0_2).bind fun t274 => (if t274 = true then (some (decide ((wrap64 ((l0_1.length : Int) + (l0_2.length : Int))) > 0))) else (some false))) = some r := by rw [if_pos rfl] at H; exact H
    clear H
    have H := H1
    clear H1
    replace H := Option.bind_eq_some_iff.mp H
    obtain ⟨t274, A60, H⟩ := H
    replace H : (if t274 = true then (some (decide ((wrap64 ((l0_1.length : Int) + (l0_2.length : Int))) > 0))) else (some false)) = some r := H
    have A6 := Aside0.mk A60
    (try have sameA6 := (Option.some.inj (A4.out.symm.trans A6.out) : t273 = t274))
    clear A60
    by_cases c7 : t274 = true
    ·subst c7
     have H1 : (some (decide ((wrap64 ((l0_1.length : Int) + (l0_2.length : Int))) > 0))) = some r := by rw [if_pos rfl] at H; exact H
     clear H
     have H := H1
     clear H1
     obtain rfl := Option.some.inj H
     go_enter Tryd.func26, Tryd.ntmps26
     go_wp2_with (first | ((with_reducible refine gate_dst (N := 1) rfl ?_); (try (refine gate_guard (by rfl) ?_; dsimp only)); refine box_event ?hg (N := 1) ?hd (cs := #[.int .i64 a0_0, .slice A0_1 l0_1.length c0_1, .slice A0_2 l0_2.length c0_2]) (t := 36) ?hr ?_; (case hd => rfl); (case hg => rfl); (case hr => first | (go_simp; done) | (go_simp; rfl)); intro gb272 hg w8 hbox hb; have n0_ := Aside0.mk (below_step (by repeat (first | (with_reducible first | exact HB.out | apply below_alloc | apply pw_below_drewN | apply below_drew1) | exact HB.out)) hb); have n1_ := Aside0.mk (hbox); have n2_ := Aside0.mk ((by rw [hg]; exact (below_size (by repeat (first | (with_reducible first | exact HB.out | apply below_alloc | apply pw_below_drewN | apply below_drew1) | exact HB.out))) : w.heap.size ≤ gb272)); have n3_ := Aside0.mk ((by rw [hg]; exact (below_size (by repeat (first | (with_reducible first | exact HB.out | apply below_alloc | apply pw_below_drewN | apply below_drew1) | exact HB.out))) : w.heap.size ≤ gb272)); clear HB; have HB := n0_; have BK272 := n1_; have GW272 := n2_; have GE272 := n3_; clear n0_ n1_ n2_ n3_; clear hb hbox hg; have hcz9_0 : w8.cell? ⟨gb272, 0, none⟩ = some (.int .i64 a0_0) := (blk_cell BK272.out 0).trans rfl; have hcz9_1 : w8.cell? ⟨gb272, 1, none⟩ = some (.slice A0_1 l0_1.length c0_1) := (blk_cell BK272.out 1).trans rfl; have hcz9_2 : w8.cell? ⟨gb272, 2, none⟩ = some (.slice A0_2 l0_2.length c0_2) := (blk_cell BK272.out 2).trans rfl; have hfz9_0 := blk_frozen BK272.out 0; have hfz9_1 := blk_frozen BK272.out 1; have hfz9_2 := blk_frozen BK272.out 2) | (go_at_call 40; (with_reducible refine (hunk_plain.calls _ _ l0_1 true _ ?side1 ?side2 A4.out).mono ?_); (case side1 => repeat (first | exact (Kd.C_below HR0_1.out HB.out) | (with_reducible refine Kd.C_alloc ?_ _) | (with_reducible refine Kd.C_drewN ?_ _) | (with_reducible refine Kd.C_drew ?_))); (case side2 => exact HC0_1.out); rintro e w' ⟨rfl, ⟨nd, rfl⟩⟩) | (go_at_call 40; (with_reducible refine (hunk_plain.calls _ _ l0_2 true _ ?side1 ?side2 A6.out).mono ?_); (case side1 => repeat (first | exact (Kd.C_below HR0_2.out (by repeat (first | (with_reducible first | exact HB.out | apply below_alloc | apply pw_below_drewN | apply below_drew1 | refine below_set ?_ GE272.out) | exact HB.out))) | (with_reducible refine Kd.C_alloc ?_ _) | (with_reducible refine Kd.C_drewN ?_ _) | (with_reducible refine Kd.C_drew ?_))); (case side2 => exact HC0_2.out); rintro e w' ⟨rfl, ⟨nd, rfl⟩⟩))
     go_ret
     (try rw [sameA6])
     exact ⟨by first | rfl | (simp [errW_none, errW_some] <;> rfl) | (simp [*, errW_none, errW_some] <;> rfl), by repeat (first | (with_reducible first | exact HB.out | apply below_alloc | apply pw_below_drewN | apply below_drew1 | refine below_set ?_ GE272.out) | exact HB.out)⟩
    ·replace c7 := Bool.eq_false_iff.mpr c7
     subst c7
     have H1 : (some false) = some r := by rw [if_neg (show ¬ (false = true) by decide)] at H; exact H
     clear H
     have H := H1
     clear H1
     obtain rfl := Option.some.inj H
     go_enter Tryd.func26, Tryd.ntmps26
     go_wp2_with (first | ((with_reducible refine gate_dst (N := 1) rfl ?_); (try (refine gate_guard (by rfl) ?_; dsimp only)); refine box_event ?hg (N := 1) ?hd (cs := #[.int .i64 a0_0, .slice A0_1 l0_1.length c0_1, .slice A0_2 l0_2.length c0_2]) (t := 36) ?hr ?_; (case hd => rfl); (case hg => rfl); (case hr => first | (go_simp; done) | (go_simp; rfl)); intro gb272 hg w10 hbox hb; have n0_ := Aside0.mk (below_step (by repeat (first | (with_reducible first | exact HB.out | apply below_alloc | apply pw_below_drewN | apply below_drew1) | exact HB.out)) hb); have n1_ := Aside0.mk (hbox); have n2_ := Aside0.mk ((by rw [hg]; exact (below_size (by repeat (first | (with_reducible first | exact HB.out | apply below_alloc | apply pw_below_drewN | apply below_drew1) | exact HB.out))) : w.heap.size ≤ gb272)); have n3_ := Aside0.mk ((by rw [hg]; exact (below_size (by repeat (first | (with_reducible first | exact HB.out | apply below_alloc | apply pw_below_drewN | apply below_drew1) | exact HB.out))) : w.heap.size ≤ gb272)); clear HB; have HB := n0_; have BK272 := n1_; have GW272 := n2_; have GE272 := n3_; clear n0_ n1_ n2_ n3_; clear hb hbox hg; have hcz11_0 : w10.cell? ⟨gb272, 0, none⟩ = some (.int .i64 a0_0) := (blk_cell BK272.out 0).trans rfl; have hcz11_1 : w10.cell? ⟨gb272, 1, none⟩ = some (.slice A0_1 l0_1.length c0_1) := (blk_cell BK272.out 1).trans rfl; have hcz11_2 : w10.cell? ⟨gb272, 2, none⟩ = some (.slice A0_2 l0_2.length c0_2) := (blk_cell BK272.out 2).trans rfl; have hfz11_0 := blk_frozen BK272.out 0; have hfz11_1 := blk_frozen BK272.out 1; have hfz11_2 := blk_frozen BK272.out 2) | (go_at_call 40; (with_reducible refine (hunk_plain.calls _ _ l0_1 true _ ?side1 ?side2 A4.out).mono ?_); (case side1 => repeat (first | exact (Kd.C_below HR0_1.out HB.out) | (with_reducible refine Kd.C_alloc ?_ _) | (with_reducible refine Kd.C_drewN ?_ _) | (with_reducible refine Kd.C_drew ?_))); (case side2 => exact HC0_1.out); rintro e w' ⟨rfl, ⟨nd, rfl⟩⟩) | (go_at_call 40; (with_reducible refine (hunk_plain.calls _ _ l0_2 false _ ?side1 ?side2 A6.out).mono ?_); (case side1 => repeat (first | exact (Kd.C_below HR0_2.out (by repeat (first | (with_reducible first | exact HB.out | apply below_alloc | apply pw_below_drewN | apply below_drew1 | refine below_set ?_ GE272.out) | exact HB.out))) | (with_reducible refine Kd.C_alloc ?_ _) | (with_reducible refine Kd.C_drewN ?_ _) | (with_reducible refine Kd.C_drew ?_))); (case side2 => exact HC0_2.out); rintro e w' ⟨rfl, ⟨nd, rfl⟩⟩))
     go_ret
     (try rw [sameA6])
     exact ⟨by first | rfl | (simp [errW_none, errW_some] <;> rfl) | (simp [*, errW_none, errW_some] <;> rfl), by repeat (first | (with_reducible first | exact HB.out | apply below_alloc | apply pw_below_drewN | apply below_drew1 | refine below_set ?_ GE272.out) | exact HB.out)⟩
   ·replace c5 := Bool.eq_false_iff.mpr c5
    subst c5
    have H1 : (some false) = some r := by rw [if_neg (show ¬ (false = true) by decide)] at H; exact H
    clear H
    have H := H1
    clear H1
    obtain rfl := Option.some.inj H
    go_enter Tryd.func26, Tryd.ntmps26
    go_wp2_with (first | ((with_reducible refine gate_dst (N := 1) rfl ?_); (try (refine gate_guard (by rfl) ?_; dsimp only)); refine box_event ?hg (N := 1) ?hd (cs := #[.int .i64 a0_0, .slice A0_1 l0_1.length c0_1, .slice A0_2 l0_2.length c0_2]) (t := 36) ?hr ?_; (case hd => rfl); (case hg => rfl); (case hr => first | (go_simp; done) | (go_simp; rfl)); intro gb272 hg w12 hbox hb; have n0_ := Aside0.mk (below_step (by repeat (first | (with_reducible first | exact HB.out | apply below_alloc | apply pw_below_drewN | apply below_drew1) | exact HB.out)) hb); have n1_ := Aside0.mk (hbox); have n2_ := Aside0.mk ((by rw [hg]; exact (below_size (by repeat (first | (with_reducible first | exact HB.out | apply below_alloc | apply pw_below_drewN | apply below_drew1) | exact HB.out))) : w.heap.size ≤ gb272)); have n3_ := Aside0.mk ((by rw [hg]; exact (below_size (by repeat (first | (with_reducible first | exact HB.out | apply below_alloc | apply pw_below_drewN | apply below_drew1) | exact HB.out))) : w.heap.size ≤ gb272)); clear HB; have HB := n0_; have BK272 := n1_; have GW272 := n2_; have GE272 := n3_; clear n0_ n1_ n2_ n3_; clear hb hbox hg; have hcz13_0 : w12.cell? ⟨gb272, 0, none⟩ = some (.int .i64 a0_0) := (blk_cell BK272.out 0).trans rfl; have hcz13_1 : w12.cell? ⟨gb272, 1, none⟩ = some (.slice A0_1 l0_1.length c0_1) := (blk_cell BK272.out 1).trans rfl; have hcz13_2 : w12.cell? ⟨gb272, 2, none⟩ = some (.slice A0_2 l0_2.length c0_2) := (blk_cell BK272.out 2).trans rfl; have hfz13_0 := blk_frozen BK272.out 0; have hfz13_1 := blk_frozen BK272.out 1; have hfz13_2 := blk_frozen BK272.out 2) | (go_at_call 40; (with_reducible refine (hunk_plain.calls _ _ l0_1 false _ ?side1 ?side2 A4.out).mono ?_); (case side1 => repeat (first | exact (Kd.C_below HR0_1.out HB.out) | (with_reducible refine Kd.C_alloc ?_ _) | (with_reducible refine Kd.C_drewN ?_ _) | (with_reducible refine Kd.C_drew ?_))); (case side2 => exact HC0_1.out); rintro e w' ⟨rfl, ⟨nd, rfl⟩⟩))
    go_ret
    exact ⟨by first | rfl | (simp [errW_none, errW_some] <;> rfl) | (simp [*, errW_none, errW_some] <;> rfl), by repeat (first | (with_reducible first | exact HB.out | apply below_alloc | apply pw_below_drewN | apply below_drew1 | refine below_set ?_ GE272.out) | exact HB.out)⟩
  ·rw [if_neg c3] at H
   have c3b0 : decide (a0_0 ≤ 60) = false := decide_eq_false c3
   clear c3
   obtain rfl := Option.some.inj H
   go_enter Tryd.func26, Tryd.ntmps26
   go_wp2_with (first | ((with_reducible refine gate_dst (N := 1) rfl ?_); (try (refine gate_guard (by rfl) ?_; dsimp only)); refine box_event ?hg (N := 1) ?hd (cs := #[.int .i64 a0_0, .slice A0_1 l0_1.length c0_1, .slice A0_2 l0_2.length c0_2]) (t := 36) ?hr ?_; (case hd => rfl); (case hg => rfl); (case hr => first | (go_simp; done) | (go_simp; rfl)); intro gb272 hg w14 hbox hb; have n0_ := Aside0.mk (below_step (by repeat (first | (with_reducible first | exact HB.out | apply below_alloc | apply pw_below_drewN | apply below_drew1) | exact HB.out)) hb); have n1_ := Aside0.mk (hbox); have n2_ := Aside0.mk ((by rw [hg]; exact (below_size (by repeat (first | (with_reducible first | exact HB.out | apply below_alloc | apply pw_below_drewN | apply below_drew1) | exact HB.out))) : w.heap.size ≤ gb272)); have n3_ := Aside0.mk ((by rw [hg]; exact (below_size (by repeat (first | (with_reducible first | exact HB.out | apply below_alloc | apply pw_below_drewN | apply below_drew1) | exact HB.out))) : w.heap.size ≤ gb272)); clear HB; have HB := n0_; have BK272 := n1_; have GW272 := n2_; have GE272 := n3_; clear n0_ n1_ n2_ n3_; clear hb hbox hg; have hcz15_0 : w14.cell? ⟨gb272, 0, none⟩ = some (.int .i64 a0_0) := (blk_cell BK272.out 0).trans rfl; have hcz15_1 : w14.cell? ⟨gb272, 1, none⟩ = some (.slice A0_1 l0_1.length c0_1) := (blk_cell BK272.out 1).trans rfl; have hcz15_2 : w14.cell? ⟨gb272, 2, none⟩ = some (.slice A0_2 l0_2.length c0_2) := (blk_cell BK272.out 2).trans rfl; have hfz15_0 := blk_frozen BK272.out 0; have hfz15_1 := blk_frozen BK272.out 1; have hfz15_2 := blk_frozen BK272.out 2))
   go_ret
   exact ⟨by first | rfl | (simp [errW_none, errW_some] <;> rfl) | (simp [*, errW_none, errW_some] <;> rfl), by repeat (first | (with_reducible first | exact HB.out | apply below_alloc | apply pw_below_drewN | apply below_drew1 | refine below_set ?_ GE272.out) | exact HB.out)⟩
 ·rw [if_neg c2] at H
  have c2b0 : decide (0 ≤ a0_0) = false := decide_eq_false c2
  clear c2
  obtain rfl := Option.some.inj H
  go_enter Tryd.func26, Tryd.ntmps26
  go_wp2_with (first | ((with_reducible refine gate_dst (N := 1) rfl ?_); (try (refine gate_guard (by rfl) ?_; dsimp only)); refine box_event ?hg (N := 1) ?hd (cs := #[.int .i64 a0_0, .slice A0_1 l0_1.length c0_1, .slice A0_2 l0_2.length c0_2]) (t := 36) ?hr ?_; (case hd => rfl); (case hg => rfl); (case hr => first | (go_simp; done) | (go_simp; rfl)); intro gb272 hg w16 hbox hb; have n0_ := Aside0.mk (below_step (by repeat (first | (with_reducible first | exact HB.out | apply below_alloc | apply pw_below_drewN | apply below_drew1) | exact HB.out)) hb); have n1_ := Aside0.mk (hbox); have n2_ := Aside0.mk ((by rw [hg]; exact (below_size (by repeat (first | (with_reducible first | exact HB.out | apply below_alloc | apply pw_below_drewN | apply below_drew1) | exact HB.out))) : w.heap.size ≤ gb272)); have n3_ := Aside0.mk ((by rw [hg]; exact (below_size (by repeat (first | (with_reducible first | exact HB.out | apply below_alloc | apply pw_below_drewN | apply below_drew1) | exact HB.out))) : w.heap.size ≤ gb272)); clear HB; have HB := n0_; have BK272 := n1_; have GW272 := n2_; have GE272 := n3_; clear n0_ n1_ n2_ n3_; clear hb hbox hg; have hcz17_0 : w16.cell? ⟨gb272, 0, none⟩ = some (.int .i64 a0_0) := (blk_cell BK272.out 0).trans rfl; have hcz17_1 : w16.cell? ⟨gb272, 1, none⟩ = some (.slice A0_1 l0_1.length c0_1) := (blk_cell BK272.out 1).trans rfl; have hcz17_2 : w16.cell? ⟨gb272, 2, none⟩ = some (.slice A0_2 l0_2.length c0_2) := (blk_cell BK272.out 2).trans rfl; have hfz17_0 := blk_frozen BK272.out 0; have hfz17_1 := blk_frozen BK272.out 1; have hfz17_2 := blk_frozen BK272.out 2))
  go_ret
  exact ⟨by first | rfl | (simp [errW_none, errW_some] <;> rfl) | (simp [*, errW_none, errW_some] <;> rfl), by repeat (first | (with_reducible first | exact HB.out | apply below_alloc | apply pw_below_drewN | apply below_drew1 | refine below_set ?_ GE272.out) | exact HB.out)⟩
end Go.Proofs.YtognfinkolpemaaDoor.Pr
end
section
namespace Go.Proofs.YtognfinkolpemaaDoor.Pr
open Go.RowKit Go.Proofs.YtognfinkolpemaaDoorW.PrintWords Go.Proofs.YtognfinkolpemaaDoorW.PrintLast Go.Proofs.YtognfinkolpemaaDoorW.PrintMore
attribute [local go_sem] max2_int min2_int max_two min_two max_three min_three max_four min_four   
def hunk_Check.l0 : Nat → Int → List (S36) → Int → Int → Option (Int)
 | 0, _, _, _, _ => none
 | k + 1, x3, x9, x10, x11 => if x11 < x10 then (if 0 ≤ x11 then (if x11 < (x9.length : Int) then ((hunk_valid.f ((rd_T36 x9 x11).f0) ((rd_T36 x9 x11).f1) ((rd_T36 x9 x11).f2)).bind fun t277 => (if t277 = true then (if ((rd_T36 x9 x11).f0) < x3 then (some 8) else (hunk_Check.l0 k (wrap64 ((wrap64 (((rd_T36 x9 x11).f0) + (((rd_T36 x9 x11).f1).length : Int))) + 1)) x9 x10 (wrap64 (x11 + 1)))) else (some 8))) else (none)) else (none)) else (some 0)
def hunk_Check.f (k : Nat) (l0 : List (S36)) : Option (Int) := if (l0.length : Int) > 40 then (some 4) else (hunk_Check.l0 k 0 l0 (l0.length : Int) 0)
set_option maxHeartbeats 8000000 in
set_option maxRecDepth 100000 in
theorem hunk_Check.calls (k : Nat) (A0 : Option Addr) (c0 : Nat) (l0 : List (S36)) (r : Int) (w : World) (hr0 : Kd.C k36 w A0 l0.length l0) (hc0 : l0.length ≤ c0) (h : hunk_Check.f k l0 = some r) :
  Calls Tryd.prog 16 #[.slice A0 l0.length c0] w fun e w' => e = .returned (.int .i64 r) ∧ Below w.heap.size w w' := by
 have hu36 := Tryd.underlying36
 have HR0 := Aside0.mk hr0
 have HC0 := Aside0.mk hc0
 clear hr0 hc0
 have HB := Aside0.mk (Below.refl w.heap.size w)
 have H : (if (l0.length : Int) > 40 then (some 4) else (hunk_Check.l0 k 0 l0 (l0.length : Int) 0)) = some r := h
 clear h
 by_cases c2 : (l0.length : Int) > 40
 ·rw [if_pos c2] at H
  have c2b0 : decide (40 < (l0.length : Int)) = true := decide_eq_true c2
  have c2b1 : decide (40 < l0.length) = true := decide_eq_true (by omega)
  clear c2
  obtain rfl := Option.some.inj H
  go_enter Tryd.func16, Tryd.ntmps16
  go_wp2
  go_ret
  exact ⟨by first | rfl | (simp [errW_none, errW_some] <;> rfl) | (simp [*, errW_none, errW_some] <;> rfl), by repeat (first | (with_reducible first | exact HB.out | apply below_alloc | apply pw_below_drewN | apply below_drew1) | exact HB.out)⟩
 ·rw [if_neg c2] at H
  have c2b0 : decide (40 < (l0.length : Int)) = false := decide_eq_false c2
  have c2b1 : decide (40 < l0.length) = false := decide_eq_false (by omega)
  clear c2
  have H' := Aside0.mk H
  clear H
  go_enter Tryd.func16, Tryd.ntmps16
  go_wp2
  go_loopg [3, 11] k (fun kq v3 v11 w' => ∃ (x3_1 : Int) (x11_1 : Int), v3 = .int .i64 x3_1 ∧ v11 = .int .i64 x11_1 ∧ Aside0 (hunk_Check.l0 kq x3_1 l0 (l0.length : Int) x11_1 = some r) ∧ Aside0 (kq ≤ k) ∧ Aside0 (Below w.heap.size w w'))
  case atStart => exact ⟨(0), (0), (by first | rfl | (simp; done) | (simp [*]; done)), (by first | rfl | (simp; done) | (simp [*]; done)), H', ⟨Nat.le_refl _⟩, ⟨by repeat (first | (with_reducible first | exact HB.out | apply below_alloc | apply pw_below_drewN | apply below_drew1) | exact HB.out)⟩⟩
  case round =>
   clear H'
   try clear c1
   try clear c2
   try clear c2b0
   try clear c2b1
   try clear p2
   obtain ⟨x3_1, x11_1, rfl, rfl, HA, HK1, HB⟩ := hrel
   cases gk with
   | zero => exact absurd HA.out (by simp [hunk_Check.l0])
   | succ k1 =>
    have H := HA.out
    clear HA
    simp only [hunk_Check.l0] at H
    by_cases c3 : x11_1 < (l0.length : Int)
    ·rw [if_pos c3] at H
     have c3b0 : decide (x11_1 < (l0.length : Int)) = true := decide_eq_true c3
     clear c3
     by_cases c4 : 0 ≤ x11_1
     ·rw [if_pos c4] at H
      have c4b0 : decide (0 ≤ x11_1) = true := decide_eq_true c4
      clear c4
      by_cases c5 : x11_1 < (l0.length : Int)
      ·rw [if_pos c5] at H
       have c5b0 : decide (x11_1 < (l0.length : Int)) = true := decide_eq_true c5
       clear c5
       replace H := Option.bind_eq_some_iff.mp H
       obtain ⟨t277, A60, H⟩ := H
       replace H : (if t277 = true then (if ((rd_T36 l0 x11_1).f0) < x3_1 then (some 8) else (hunk_Check.l0 k1 (wrap64 ((wrap64 (((rd_T36 l0 x11_1).f0) + (((rd_T36 l0 x11_1).f1).length : Int))) + 1)) l0 (l0.length : Int) (wrap64 (x11_1 + 1)))) else (some 8)) = some r := H
       have A6 := Aside0.mk A60
       clear A60
       by_cases c7 : t277 = true
       ·subst c7
        have H1 : (if ((rd_T36 l0 x11_1).f0) < x3_1 then (some 8) else (hunk_Check.l0 k1 (wrap64 ((wrap64 (((rd_T36 l0 x11_1).f0) + (((rd_T36 l0 x11_1).f1).length : Int))) + 1)) l0 (l0.length : Int) (wrap64 (x11_1 + 1)))) = some r := by rw [if_pos rfl] at H; exact H
        clear H
        have H := H1
        clear H1
        by_cases c8 : ((rd_T36 l0 x11_1).f0) < x3_1
        ·rw [if_pos c8] at H
         have c8b0 : decide (((rd_T36 l0 x11_1).f0) < x3_1) = true := decide_eq_true c8
         clear c8
         obtain rfl := Option.some.inj H
         have p275 : 0 ≤ (x11_1 : Int) := of_decide_eq_true (by first | (with_reducible assumption) | assumption)
         have q275 : x11_1 < (l0.length : Int) := of_decide_eq_true (by first | (with_reducible assumption) | assumption)
         obtain ⟨ad275, A275_1, c275_1, A275_2, c275_2, e275, hx275_0, hx275_1, hx275_2, hl275_1, hi275_1, hl275_2, hi275_2⟩ := at_T36 HR0.out x11_1 p275 q275
         cases e275
         replace hx275_0 := (HB.out.cell (World.block_lt_of_cell? w _ hx275_0)).trans hx275_0
         replace hx275_1 := (HB.out.cell (World.block_lt_of_cell? w _ hx275_1)).trans hx275_1
         replace hx275_2 := (HB.out.cell (World.block_lt_of_cell? w _ hx275_2)).trans hx275_2
         have HR275_1 := Aside0.mk hi275_1
         have HC275_1 := Aside0.mk hl275_1
         clear hi275_1 hl275_1
         have HR275_2 := Aside0.mk hi275_2
         have HC275_2 := Aside0.mk hl275_2
         clear hi275_2 hl275_2
         replace p275 := eq_true p275
         replace q275 := eq_true q275
         go_wp2_with (first | ((with_reducible refine gate_dst (N := 5) rfl ?_); refine box_event ?hg (N := 5) ?hd (cs := #[.int .i64 0, .slice none 0 0, .slice none 0 0]) (t := 36) ?hr ?_; (case hd => rfl); (case hg => rfl); (case hr => first | (go_simp; done) | (go_simp; rfl)); intro gb276 hg w9 hbox hb; have n0_ := Aside0.mk (below_step (by repeat (first | (with_reducible first | exact HB.out | apply below_alloc | apply pw_below_drewN | apply below_drew1) | exact HB.out)) hb); have n1_ := Aside0.mk (hbox); have n2_ := Aside0.mk ((by rw [hg]; exact (below_size (by repeat (first | (with_reducible first | exact HB.out | apply below_alloc | apply pw_below_drewN | apply below_drew1) | exact HB.out))) : w.heap.size ≤ gb276)); have n3_ := Aside0.mk ((by rw [hg]; exact (below_size (by repeat (first | (with_reducible first | exact HB.out | apply below_alloc | apply pw_below_drewN | apply below_drew1) | exact HB.out))) : w.heap.size ≤ gb276)); clear HB; have HB := n0_; have BK276 := n1_; have GW276 := n2_; have GE276 := n3_; clear n0_ n1_ n2_ n3_; clear hb hbox hg; have hcz10_0 : w9.cell? ⟨gb276, 0, none⟩ = some (.int .i64 0) := (blk_cell BK276.out 0).trans rfl; have hcz10_1 : w9.cell? ⟨gb276, 1, none⟩ = some (.slice none 0 0) := (blk_cell BK276.out 1).trans rfl; have hcz10_2 : w9.cell? ⟨gb276, 2, none⟩ = some (.slice none 0 0) := (blk_cell BK276.out 2).trans rfl; have hfz10_0 := blk_frozen BK276.out 0; have hfz10_1 := blk_frozen BK276.out 1; have hfz10_2 := blk_frozen BK276.out 2) | ((with_reducible refine gate_callee (f := 26) rfl ?_); refine goesL_ (some 16) rfl rfl Tryd.func26 (by kernel_rfl) rfl #[.agg #[.int .i64 ((rd_T36 l0 x11_1).f0), .slice A275_1 ((rd_T36 l0 x11_1).f1).length c275_1, .slice A275_2 ((rd_T36 l0 x11_1).f2).length c275_2]] rfl (by (try simp only [List.map_toArray, List.map_cons, List.map_nil]); first | done | rfl | (simp only [List.length_drop, List.length_take]; rfl)) ?_; (with_reducible refine (hunk_valid.calls ((rd_T36 l0 x11_1).f0) _ _ ((rd_T36 l0 x11_1).f1) _ _ ((rd_T36 l0 x11_1).f2) true _ ?side1 ?side2 ?side3 ?side4 A6.out).mono ?_); (case side1 => exact Kd.C_below HR275_1.out (by repeat (first | (with_reducible first | exact HB.out | apply below_alloc | apply pw_below_drewN | apply below_drew1 | refine below_set ?_ GE276.out) | exact HB.out))); (case side2 => exact HC275_1.out); (case side3 => exact Kd.C_below HR275_2.out (by repeat (first | (with_reducible first | exact HB.out | apply below_alloc | apply pw_below_drewN | apply below_drew1 | refine below_set ?_ GE276.out) | exact HB.out))); (case side4 => exact HC275_2.out); rintro e w11 ⟨rfl, hb⟩; refine ⟨_, rfl, ?_⟩; have n0_ := Aside0.mk (blk_below (g := gb276) (o := .cells #[.int .i64 ((rd_T36 l0 x11_1).f0), .slice A275_1 ((rd_T36 l0 x11_1).f1).length c275_1, .slice A275_2 ((rd_T36 l0 x11_1).f2).length c275_2] 36 (0, 0)) (by (with_reducible repeat (first | refine blk_drewN ?_ _ | refine blk_drew ?_ | refine blk_alloc ?_ _)); refine blk_put (cs := #[.int .i64 ((rd_T36 l0 x11_1).f0), .slice A275_1 ((rd_T36 l0 x11_1).f1).length c275_1, .slice none 0 0]) ?_ 2 _ rfl; (with_reducible repeat (first | refine blk_drewN ?_ _ | refine blk_drew ?_ | refine blk_alloc ?_ _)); refine blk_put (cs := #[.int .i64 ((rd_T36 l0 x11_1).f0), .slice none 0 0, .slice none 0 0]) ?_ 1 _ rfl; (with_reducible repeat (first | refine blk_drewN ?_ _ | refine blk_drew ?_ | refine blk_alloc ?_ _)); refine blk_put (cs := #[.int .i64 0, .slice none 0 0, .slice none 0 0]) ?_ 0 _ rfl; (with_reducible repeat (first | refine blk_drewN ?_ _ | refine blk_drew ?_ | refine blk_alloc ?_ _)); exact BK276.out) hb); have n1_ := Aside0.mk (below_step (by repeat (first | (with_reducible first | exact HB.out | apply below_alloc | apply pw_below_drewN | apply below_drew1 | refine below_set ?_ GE276.out) | exact HB.out)) hb); clear BK276; clear HB; have BK276 := n0_; have HB := n1_; clear n0_ n1_; (try clear hb); (try clear hb2); (try clear hk); (try clear hi); have hcz12_0 : w11.cell? ⟨gb276, 0, none⟩ = some (.int .i64 ((rd_T36 l0 x11_1).f0)) := (blk_cell BK276.out 0).trans rfl; have hcz12_1 : w11.cell? ⟨gb276, 1, none⟩ = some (.slice A275_1 ((rd_T36 l0 x11_1).f1).length c275_1) := (blk_cell BK276.out 1).trans rfl; have hcz12_2 : w11.cell? ⟨gb276, 2, none⟩ = some (.slice A275_2 ((rd_T36 l0 x11_1).f2).length c275_2) := (blk_cell BK276.out 2).trans rfl; have hfz12_0 := blk_frozen BK276.out 0; have hfz12_1 := blk_frozen BK276.out 1; have hfz12_2 := blk_frozen BK276.out 2))
         go_ret
         exact ⟨by first | rfl | (simp [errW_none, errW_some] <;> rfl) | (simp [*, errW_none, errW_some] <;> rfl), by repeat (first | (with_reducible first | exact HB.out | apply below_alloc | apply pw_below_drewN | apply below_drew1 | refine below_set ?_ GE276.out) | exact HB.out)⟩
        ·rw [if_neg c8] at H
         have c8b0 : decide (((rd_T36 l0 x11_1).f0) < x3_1) = false := decide_eq_false c8
         clear c8
         have H' := Aside0.mk H
         clear H
         have p275 : 0 ≤ (x11_1 : Int) := of_decide_eq_true (by first | (with_reducible assumption) | assumption)
         have q275 : x11_1 < (l0.length : Int) := of_decide_eq_true (by first | (with_reducible assumption) | assumption)
         obtain ⟨ad275, A275_1, c275_1, A275_2, c275_2, e275, hx275_0, hx275_1, hx275_2, hl275_1, hi275_1, hl275_2, hi275_2⟩ := at_T36 HR0.out x11_1 p275 q275
         cases e275
         replace hx275_0 := (HB.out.cell (World.block_lt_of_cell? w _ hx275_0)).trans hx275_0
         replace hx275_1 := (HB.out.cell (World.block_lt_of_cell? w _ hx275_1)).trans hx275_1
         replace hx275_2 := (HB.out.cell (World.block_lt_of_cell? w _ hx275_2)).trans hx275_2
         have HR275_1 := Aside0.mk hi275_1
         have HC275_1 := Aside0.mk hl275_1
         clear hi275_1 hl275_1
         have HR275_2 := Aside0.mk hi275_2
         have HC275_2 := Aside0.mk hl275_2
         clear hi275_2 hl275_2
         replace p275 := eq_true p275
         replace q275 := eq_true q275
         go_wp2_with (first | ((with_reducible refine gate_dst (N := 5) rfl ?_); refine box_event ?hg (N := 5) ?hd (cs := #[.int .i64 0, .slice none 0 0, .slice none 0 0]) (t := 36) ?hr ?_; (case hd => rfl); (case hg => rfl); (case hr => first | (go_simp; done) | (go_simp; rfl)); intro gb276 hg w13 hbox hb; have n0_ := Aside0.mk (below_step (by repeat (first | (with_reducible first | exact HB.out | apply below_alloc | apply pw_below_drewN | apply below_drew1) | exact HB.out)) hb); have n1_ := Aside0.mk (hbox); have n2_ := Aside0.mk ((by rw [hg]; exact (below_size (by repeat (first | (with_reducible first | exact HB.out | apply below_alloc | apply pw_below_drewN | apply below_drew1) | exact HB.out))) : w.heap.size ≤ gb276)); have n3_ := Aside0.mk ((by rw [hg]; exact (below_size (by repeat (first | (with_reducible first | exact HB.out | apply below_alloc | apply pw_below_drewN | apply below_drew1) | exact HB.out))) : w.heap.size ≤ gb276)); clear HB; have HB := n0_; have BK276 := n1_; have GW276 := n2_; have GE276 := n3_; clear n0_ n1_ n2_ n3_; clear hb hbox hg; have hcz14_0 : w13.cell? ⟨gb276, 0, none⟩ = some (.int .i64 0) := (blk_cell BK276.out 0).trans rfl; have hcz14_1 : w13.cell? ⟨gb276, 1, none⟩ = some (.slice none 0 0) := (blk_cell BK276.out 1).trans rfl; have hcz14_2 : w13.cell? ⟨gb276, 2, none⟩ = some (.slice none 0 0) := (blk_cell BK276.out 2).trans rfl; have hfz14_0 := blk_frozen BK276.out 0; have hfz14_1 := blk_frozen BK276.out 1; have hfz14_2 := blk_frozen BK276.out 2) | ((with_reducible refine gate_callee (f := 26) rfl ?_); refine goesL_ (some 16) rfl rfl Tryd.func26 (by kernel_rfl) rfl #[.agg #[.int .i64 ((rd_T36 l0 x11_1).f0), .slice A275_1 ((rd_T36 l0 x11_1).f1).length c275_1, .slice A275_2 ((rd_T36 l0 x11_1).f2).length c275_2]] rfl (by (try simp only [List.map_toArray, List.map_cons, List.map_nil]); first | done | rfl | (simp only [List.length_drop, List.length_take]; rfl)) ?_; (with_reducible refine (hunk_valid.calls ((rd_T36 l0 x11_1).f0) _ _ ((rd_T36 l0 x11_1).f1) _ _ ((rd_T36 l0 x11_1).f2) true _ ?side1 ?side2 ?side3 ?side4 A6.out).mono ?_); (case side1 => exact Kd.C_below HR275_1.out (by repeat (first | (with_reducible first | exact HB.out | apply below_alloc | apply pw_below_drewN | apply below_drew1 | refine below_set ?_ GE276.out) | exact HB.out))); (case side2 => exact HC275_1.out); (case side3 => exact Kd.C_below HR275_2.out (by repeat (first | (with_reducible first | exact HB.out | apply below_alloc | apply pw_below_drewN | apply below_drew1 | refine below_set ?_ GE276.out) | exact HB.out))); (case side4 => exact HC275_2.out); rintro e w15 ⟨rfl, hb⟩; refine ⟨_, rfl, ?_⟩; have n0_ := Aside0.mk (blk_below (g := gb276) (o := .cells #[.int .i64 ((rd_T36 l0 x11_1).f0), .slice A275_1 ((rd_T36 l0 x11_1).f1).length c275_1, .slice A275_2 ((rd_T36 l0 x11_1).f2).length c275_2] 36 (0, 0)) (by (with_reducible repeat (first | refine blk_drewN ?_ _ | refine blk_drew ?_ | refine blk_alloc ?_ _)); refine blk_put (cs := #[.int .i64 ((rd_T36 l0 x11_1).f0), .slice A275_1 ((rd_T36 l0 x11_1).f1).length c275_1, .slice none 0 0]) ?_ 2 _ rfl; (with_reducible repeat (first | refine blk_drewN ?_ _ | refine blk_drew ?_ | refine blk_alloc ?_ _)); refine blk_put (cs := #[.int .i64 ((rd_T36 l0 x11_1).f0), .slice none 0 0, .slice none 0 0]) ?_ 1 _ rfl; (with_reducible repeat (first | refine blk_drewN ?_ _ | refine blk_drew ?_ | refine blk_alloc ?_ _)); refine blk_put (cs := #[.int .i64 0, .slice none 0 0, .slice none 0 0]) ?_ 0 _ rfl; (with_reducible repeat (first | refine blk_drewN ?_ _ | refine blk_drew ?_ | refine blk_alloc ?_ _)); exact BK276.out) hb); have n1_ := Aside0.mk (below_step (by repeat (first | (with_reducible first | exact HB.out | apply below_alloc | apply pw_below_drewN | apply below_drew1 | refine below_set ?_ GE276.out) | exact HB.out)) hb); clear BK276; clear HB; have BK276 := n0_; have HB := n1_; clear n0_ n1_; (try clear hb); (try clear hb2); (try clear hk); (try clear hi); have hcz16_0 : w15.cell? ⟨gb276, 0, none⟩ = some (.int .i64 ((rd_T36 l0 x11_1).f0)) := (blk_cell BK276.out 0).trans rfl; have hcz16_1 : w15.cell? ⟨gb276, 1, none⟩ = some (.slice A275_1 ((rd_T36 l0 x11_1).f1).length c275_1) := (blk_cell BK276.out 1).trans rfl; have hcz16_2 : w15.cell? ⟨gb276, 2, none⟩ = some (.slice A275_2 ((rd_T36 l0 x11_1).f2).length c275_2) := (blk_cell BK276.out 2).trans rfl; have hfz16_0 := blk_frozen BK276.out 0; have hfz16_1 := blk_frozen BK276.out 1; have hfz16_2 := blk_frozen BK276.out 2))
         go_roundg k1
         case measure => have := HK1.out; omega
         case rel => exact ⟨(wrap64 ((wrap64 (((rd_T36 l0 x11_1).f0) + (((rd_T36 l0 x11_1).f1).length : Int))) + 1)), (wrap64 (x11_1 + 1)), (by first | rfl | (simp; done) | (simp [*]; done)), (by first | rfl | (simp; done) | (simp [*]; done)), H', ⟨by have := HK1.out; omega⟩, ⟨by repeat (first | (with_reducible first | exact HB.out | apply below_alloc | apply pw_below_drewN | apply below_drew1 | refine below_set ?_ GE276.out) | exact HB.out)⟩⟩
       ·replace c7 := Bool.eq_false_iff.mpr c7
        subst c7
        have H1 : (some 8) = some r := by rw [if_neg (show ¬ (false = true) by decide)] at H; exact H
        clear H
        have H := H1
        clear H1
        obtain rfl := Option.some.inj H
        have p275 : 0 ≤ (x11_1 : Int) := of_decide_eq_true (by first | (with_reducible assumption) | assumption)
        have q275 : x11_1 < (l0.length : Int) := of_decide_eq_true (by first | (with_reducible assumption) | assumption)
        obtain ⟨ad275, A275_1, c275_1, A275_2, c275_2, e275, hx275_0, hx275_1, hx275_2, hl275_1, hi275_1, hl275_2, hi275_2⟩ := at_T36 HR0.out x11_1 p275 q275
        cases e275
        replace hx275_0 := (HB.out.cell (World.block_lt_of_cell? w _ hx275_0)).trans hx275_0
        replace hx275_1 := (HB.out.cell (World.block_lt_of_cell? w _ hx275_1)).trans hx275_1
        replace hx275_2 := (HB.out.cell (World.block_lt_of_cell? w _ hx275_2)).trans hx275_2
        have HR275_1 := Aside0.mk hi275_1
        have HC275_1 := Aside0.mk hl275_1
        clear hi275_1 hl275_1
        have HR275_2 := Aside0.mk hi275_2
        have HC275_2 := Aside0.mk hl275_2
        clear hi275_2 hl275_2
        replace p275 := eq_true p275
        replace q275 := eq_true q275
        go_wp2_with (first | ((with_reducible refine gate_dst (N := 5) rfl ?_); refine box_event ?hg (N := 5) ?hd (cs := #[.int .i64 0, .slice none 0 0, .slice none 0 0]) (t := 36) ?hr ?_; (case hd => rfl); (case hg => rfl); (case hr => first | (go_simp; done) | (go_simp; rfl)); intro gb276 hg w17 hbox hb; have n0_ := Aside0.mk (below_step (by repeat (first | (with_reducible first | exact HB.out | apply below_alloc | apply pw_below_drewN | apply below_drew1) | exact HB.out)) hb); have n1_ := Aside0.mk (hbox); have n2_ := Aside0.mk ((by rw [hg]; exact (below_size (by repeat (first | (with_reducible first | exact HB.out | apply below_alloc | apply pw_below_drewN | apply below_drew1) | exact HB.out))) : w.heap.size ≤ gb276)); have n3_ := Aside0.mk ((by rw [hg]; exact (below_size (by repeat (first | (with_reducible first | exact HB.out | apply below_alloc | apply pw_below_drewN | apply below_drew1) | exact HB.out))) : w.heap.size ≤ gb276)); clear HB; have HB := n0_; have BK276 := n1_; have GW276 := n2_; have GE276 := n3_; clear n0_ n1_ n2_ n3_; clear hb hbox hg; have hcz18_0 : w17.cell? ⟨gb276, 0, none⟩ = some (.int .i64 0) := (blk_cell BK276.out 0).trans rfl; have hcz18_1 : w17.cell? ⟨gb276, 1, none⟩ = some (.slice none 0 0) := (blk_cell BK276.out 1).trans rfl; have hcz18_2 : w17.cell? ⟨gb276, 2, none⟩ = some (.slice none 0 0) := (blk_cell BK276.out 2).trans rfl; have hfz18_0 := blk_frozen BK276.out 0; have hfz18_1 := blk_frozen BK276.out 1; have hfz18_2 := blk_frozen BK276.out 2) | ((with_reducible refine gate_callee (f := 26) rfl ?_); refine goesL_ (some 16) rfl rfl Tryd.func26 (by kernel_rfl) rfl #[.agg #[.int .i64 ((rd_T36 l0 x11_1).f0), .slice A275_1 ((rd_T36 l0 x11_1).f1).length c275_1, .slice A275_2 ((rd_T36 l0 x11_1).f2).length c275_2]] rfl (by (try simp only [List.map_toArray, List.map_cons, List.map_nil]); first | done | rfl | (simp only [List.length_drop, List.length_take]; rfl)) ?_; (with_reducible refine (hunk_valid.calls ((rd_T36 l0 x11_1).f0) _ _ ((rd_T36 l0 x11_1).f1) _ _ ((rd_T36 l0 x11_1).f2) false _ ?side1 ?side2 ?side3 ?side4 A6.out).mono ?_); (case side1 => exact Kd.C_below HR275_1.out (by repeat (first | (with_reducible first | exact HB.out | apply below_alloc | apply pw_below_drewN | apply below_drew1 | refine below_set ?_ GE276.out) | exact HB.out))); (case side2 => exact HC275_1.out); (case side3 => exact Kd.C_below HR275_2.out (by repeat (first | (with_reducible first | exact HB.out | apply below_alloc | apply pw_below_drewN | apply below_drew1 | refine below_set ?_ GE276.out) | exact HB.out))); (case side4 => exact HC275_2.out); rintro e w19 ⟨rfl, hb⟩; refine ⟨_, rfl, ?_⟩; have n0_ := Aside0.mk (blk_below (g := gb276) (o := .cells #[.int .i64 ((rd_T36 l0 x11_1).f0), .slice A275_1 ((rd_T36 l0 x11_1).f1).length c275_1, .slice A275_2 ((rd_T36 l0 x11_1).f2).length c275_2] 36 (0, 0)) (by (with_reducible repeat (first | refine blk_drewN ?_ _ | refine blk_drew ?_ | refine blk_alloc ?_ _)); refine blk_put (cs := #[.int .i64 ((rd_T36 l0 x11_1).f0), .slice A275_1 ((rd_T36 l0 x11_1).f1).length c275_1, .slice none 0 0]) ?_ 2 _ rfl; (with_reducible repeat (first | refine blk_drewN ?_ _ | refine blk_drew ?_ | refine blk_alloc ?_ _)); refine blk_put (cs := #[.int .i64 ((rd_T36 l0 x11_1).f0), .slice none 0 0, .slice none 0 0]) ?_ 1 _ rfl; (with_reducible repeat (first | refine blk_drewN ?_ _ | refine blk_drew ?_ | refine blk_alloc ?_ _)); refine blk_put (cs := #[.int .i64 0, .slice none 0 0, .slice none 0 0]) ?_ 0 _ rfl; (with_reducible repeat (first | refine blk_drewN ?_ _ | refine blk_drew ?_ | refine blk_alloc ?_ _)); exact BK276.out) hb); have n1_ := Aside0.mk (below_step (by repeat (first | (with_reducible first | exact HB.out | apply below_alloc | apply pw_below_drewN | apply below_drew1 | refine below_set ?_ GE276.out) | exact HB.out)) hb); clear BK276; clear HB; have BK276 := n0_; have HB := n1_; clear n0_ n1_; (try clear hb); (try clear hb2); (try clear hk); (try clear hi)))
        go_ret
        exact ⟨by first | rfl | (simp [errW_none, errW_some] <;> rfl) | (simp [*, errW_none, errW_some] <;> rfl), by repeat (first | (with_reducible first | exact HB.out | apply below_alloc | apply pw_below_drewN | apply below_drew1 | refine below_set ?_ GE276.out) | exact HB.out)⟩
      ·rw [if_neg c5] at H
       exact absurd H (by simp)
     ·rw [if_neg c4] at H
      exact absurd H (by simp)
    ·rw [if_neg c3] at H
     have c3b0 : decide (x11_1 < (l0.length : Int)) = false := decide_eq_false c3
     clear c3
     obtain rfl := Option.some.inj H
     go_wp2
     go_ret
     exact ⟨by first | rfl | (simp [errW_none, errW_some] <;> rfl) | (simp [*, errW_none, errW_some] <;> rfl), by repeat (first | (with_reducible first | exact HB.out | apply below_alloc | apply pw_below_drewN | apply below_drew1) | exact HB.out)⟩
end Go.Proofs.YtognfinkolpemaaDoor.Pr
end
section
namespace Go.Proofs.YtognfinkolpemaaDoor.Pr
open Go.Shelf Go.RowKit Go.Proofs.YtognfinkolpemaaDoorW.PrintWords Go.Proofs.YtognfinkolpemaaDoorW.PrintLast Go.Proofs.YtognfinkolpemaaDoorW.PrintMore
abbrev htext.dec (n : Nat) : ByteArray := ⟨(Lib.decDigits n).toArray⟩
abbrev htext.headS (a b c : Nat) : ByteArray := (⟨#[64]⟩ : ByteArray) ++ htext.dec a ++ (⟨#[32]⟩ : ByteArray) ++ htext.dec b ++ (⟨#[32]⟩ : ByteArray) ++ htext.dec c ++ (⟨#[10]⟩ : ByteArray)
abbrev htext.line (m : UInt8) (s : ByteArray) : ByteArray := (⟨#[m]⟩ : ByteArray) ++ s ++ (⟨#[10]⟩ : ByteArray)
def htext.rows (m : UInt8) : List ByteArray → ByteArray → ByteArray
 | [], S => S
 | s :: l, S => htext.rows m l (S ++ htext.line m s)
def htext.one (h : S36) (S : ByteArray) : ByteArray := htext.rows 43 h.f2 (htext.rows 45 h.f1 (S ++ htext.headS h.f0.toNat h.f1.length h.f2.length))
def htext.all : List S36 → ByteArray → ByteArray
 | [], S => S
 | h :: l, S => htext.all l (htext.one h S)
def htext.fine (l : List S36) : Bool := l.all fun h => decide (0 ≤ h.f0) && decide (h.f0 < 100) && decide (h.f1.length < 100) && decide (h.f2.length < 100)
def hunk_Text.g (l0 : List S36) (e : Int) : Option (List Int × Int) :=
 if e = 0 then (if htext.fine l0 = true ∧ (htext.all l0 ⟨#[]⟩).size ≤ 1000000000 ∧ l0.length ≤ 1000000 then some (if 20000 < (htext.all l0 ⟨#[]⟩).size then ([], 4) else (bytesOf (htext.all l0 ⟨#[]⟩), 0)) else none) else some ([], e)
def hunk_Text.f (k : Nat) (l0 : List S36) : Option (List Int × Int) := (hunk_Check.f k l0).bind (hunk_Text.g l0)
theorem htext.dec_len {n : Nat} (h : n < 100) : (Lib.decDigits n).length ≤ 2 := (by decide +kernel : ∀ i : Fin 100, (Lib.decDigits i.1).length ≤ 2) ⟨n, h⟩
theorem htext.rows_size (m : UInt8) : ∀ (l : List ByteArray) (S : ByteArray), S.size ≤ (htext.rows m l S).size
 | [], S => Nat.le_refl _
 | s :: l, S => Nat.le_trans (by rw [ByteArray.size_append]; omega) (htext.rows_size m l _)
theorem htext.one_size (h : S36) (S : ByteArray) : (S ++ htext.headS h.f0.toNat h.f1.length h.f2.length).size ≤ (htext.one h S).size := Nat.le_trans (htext.rows_size _ _ _) (htext.rows_size _ _ _)
theorem htext.all_size : ∀ (l : List S36) (S : ByteArray), S.size ≤ (htext.all l S).size
 | [], S => Nat.le_refl _
 | h :: l, S => Nat.le_trans (Nat.le_trans (by rw [ByteArray.size_append]; omega) (htext.one_size h S)) (htext.all_size l _)
theorem htext.cells (a b : ByteArray) : Lib.strCells (a ++ b) = Lib.strCells a ++ Lib.strCells b := by
 unfold Lib.strCells
 rw [ByteArray.data_append, Array.toList_append, List.map_append]
theorem htext.keepF {T e B b : Nat} {bs : List Value} {w w' : World} (h : Lib.IsBuilderF T e B b bs w) (hk : Below w.heap.size w w') : Lib.IsBuilderF T e B b bs w' := by
 have key : ∀ p, Lib.BuilderAtF T e B b p bs w → Lib.BuilderAtF T e B b p bs w' := fun p h => by
  have hlt := h.lt
  obtain ⟨hB, v, hb, hown, hne⟩ := h
  exact ⟨hB, v, (hk.block b hlt).trans hb, hown.kept (grown_of_below hk none) (by cases hv : v.ownBlock <;> simp), hne⟩
 exact h.elim (fun h => .inl (key _ h)) (fun h => .inr (key _ h))
theorem htext.isNew {B b : Nat} {w : World} (hB : B ≤ b) (hb : w.heap[b]? = some (.cells #[.pointer none, .slice none 0 0] 56 (0, 0))) : Lib.IsBuilderF 56 5 B b (Lib.strCells ⟨#[]⟩) w :=
 .inl ⟨hB, .slice none 0 0, hb, ⟨rfl, .inl ⟨rfl, rfl⟩⟩, by simp [Value.ownBlock]⟩
set_option maxHeartbeats 8000000 in
set_option maxRecDepth 100000 in
theorem hunk_Text.calls (k : Nat) (A0 : Option Addr) (c0 : Nat) (l0 : List S36) (r1 : List Int) (r2 : Int) (w : World) (hr0 : Kd.C k36 w A0 l0.length l0) (hc0 : l0.length ≤ c0) (h : hunk_Text.f k l0 = some (r1, r2)) :
  Calls Tryd.prog 17 #[.slice A0 l0.length c0] w fun e w' => ∃ v0_ : Value, e = .returned (.tuple #[v0_, .int .i64 r2]) ∧ Kd.V (Kd.int .u8) 5 w' w.heap.size (fun k_ => (w.heap.size ≤ k_)) v0_ r1 ∧ Below w.heap.size w w' := by
 have hu := Tryd.underlying36
 unfold hunk_Text.f at h
 replace h := Option.bind_eq_some_iff.1 h
 obtain ⟨ce, hce, h⟩ := h
 unfold hunk_Text.g at h
 have HCE := Aside0.mk hce
 have HR0 := Aside0.mk hr0
 have HC0 := Aside0.mk hc0
 clear hr0 hc0 hce
 by_cases he : ce = 0
 ·subst he
  rw [if_pos rfl] at h
  split at h
  case isFalse => cases h
  rename_i hg
  obtain ⟨hfine, hsz, hlen⟩ := hg
  have HFI := Aside0.mk hfine
  have HSZ := Aside0.mk hsz
  have HH := Aside0.mk (Option.some.inj h)
  clear h hfine hsz
  go_enter Tryd.func17, Tryd.ntmps17
  go_upto_region 5 with (first | (go_at_call 16; (with_reducible refine (hunk_Check.calls k A0 c0 l0 0 _ HR0.out HC0.out HCE.out).mono ?_); rintro e_ w1 ⟨rfl, hb1⟩; have HB1 := Aside0.mk hb1; clear hb1) | ((with_reducible refine gate_dst (N := 5) rfl ?_); refine box_event ?hg (N := 5) ?hd (cs := #[.pointer none, .slice none 0 0]) (t := 56) ?hr ?_; (case hd => rfl); (case hg => rfl); (case hr => first | (go_simp; done) | (go_simp; rfl)); intro hbb hbe w2 hbox hb2; have BU2 := Aside0.mk hbox; have HB2 := Aside0.mk hb2; have HBE := Aside0.mk hbe; clear hbox hb2 hbe))
  have HBU2 := Aside0.mk (htext.isNew (B := w1.heap.size) (by rw [HBE.out]; exact Nat.le_refl _) BU2.out)
  have HR1 := Aside0.mk (Kd.C_below (Kd.C_below HR0.out HB1.out) HB2.out)
  have HBL2 := Aside0.mk (show Below w1.heap.size w1 w2 from HB2.out)
  have HALLt := Aside0.mk (rfl : htext.all l0 ⟨#[]⟩ = htext.all l0 ⟨#[]⟩)
  have HRW1 := Aside0.mk (Kd.C_below HR0.out HB1.out)
  obtain ⟨TOT, hTOT⟩ : ∃ TOT, TOT = htext.all l0 ⟨#[]⟩ := ⟨_, rfl⟩
  rw [← hTOT] at HSZ HH
  have HTT := Aside0.mk hTOT.symm
  clear hTOT HALLt
  go_wp2
  go_loopg [19] l0.length (fun nq v19 wr => ∃ (i : Nat) (t : List S36) (S : ByteArray), t.length = nq ∧ v19 = .int .i64 (i : Int) ∧ Aside0 (i + t.length = l0.length) ∧ Aside0 (l0.drop i = t) ∧ Aside0 (htext.fine t = true) ∧ Aside0 (htext.all t S = TOT) ∧ Aside0 (Lib.IsBuilderF 56 5 w1.heap.size hbb (Lib.strCells S) wr) ∧ Aside0 (Below w1.heap.size w1 wr))
  case atStart => exact ⟨0, l0, ⟨#[]⟩, rfl, rfl, ⟨Nat.zero_add _⟩, ⟨rfl⟩, HFI, HTT, HBU2, HBL2⟩
  case round =>
   clear HBU2 HBL2 HTT BU2 HB2 HFI HR1
   obtain ⟨i, t, S, hnq, rfl, HIT, HT, HFT, HALL, HBU, HBL⟩ := hrel
   have HNQ0 := Aside0.mk hnq
   clear hnq
   cases t with
   | nil =>
    have hi : i = l0.length := by simpa using HIT.out
    have ci : decide ((i : Int) < (l0.length : Int)) = false := decide_eq_false (by omega)
    have ci2 : decide (i < l0.length) = false := decide_eq_false (by omega)
    have ci3 : (i < l0.length) = False := eq_false (by omega)
    obtain rfl : S = TOT := HALL.out
    clear hi HALL
    have hp := HH.out
    have HSW := Aside0.mk (show w1.heap.size ≤ wr.heap.size from Below.size HBL.out)
    have HBUs := Aside0.mk (show Lib.IsBuilderF 56 5 w1.heap.size hbb (Lib.byteCells S.data.toList) wr from HBU.out)
    by_cases hbig : 20000 < S.size
    ·rw [if_pos hbig] at hp
     obtain ⟨rfl, rfl⟩ := Prod.mk.inj hp
     have kb0 : decide ((20000 : Int) < (S.size : Int)) = true := decide_eq_true (by omega)
     clear hp hbig
     go_wp2_with (go_at_call 29; (with_reducible refine (Tryd.Builder_Len_f w1.heap.size hbb (Lib.strCells S) _ HBU.out).mono ?_); rintro e_ w_ ⟨rfl, rfl⟩; rw [Lib.strCells_length])
     go_ret2
     exact ⟨_, rfl, Kd.V_nil _ _ _ _ _, Below.trans HB1.out (Below.mono HBL.out (Below.size HB1.out))⟩
    ·rw [if_neg hbig] at hp
     obtain ⟨rfl, rfl⟩ := Prod.mk.inj hp
     have kb0 : decide ((20000 : Int) < (S.size : Int)) = false := decide_eq_false (by omega)
     have HS9 := Aside0.mk (show S.size ≤ 9223372036854775807 by omega)
     clear hp hbig
     have kb := fun W => print_bytes (P := Tryd.prog) 9 41 5 Tryd.underlying9 Tryd.underlying41 Tryd.underlying5 S W
     go_wp2_with (first | (go_at_call 29; (with_reducible refine (Tryd.Builder_Len_f w1.heap.size hbb (Lib.strCells S) _ HBU.out).mono ?_); rintro e_ w_ ⟨rfl, rfl⟩; rw [Lib.strCells_length]) | (go_at_call 30; (with_reducible refine (Tryd.Builder_String_any_k w1.heap.size hbb S.data.toList _ HBUs.out HSW.out).mono ?_); rintro e_ w5 ⟨rfl, hbu5, hb5, hok5⟩; have HB5 := Aside0.mk hb5; clear hbu5 hb5 hok5; rw [show ByteArray.mk S.data.toList.toArray = S from rfl]))
     go_ret2
     have hB : w.heap.size ≤ w5.heap.size := Nat.le_trans (Below.size HB1.out) (Nat.le_trans (Below.size HBL.out) (Below.size HB5.out))
     refine ⟨_, rfl, ?_, ?_⟩
     ·exact bytes_V w5 5 S HS9.out _ (grownCap_ge _ _ _ _) hB
     ·exact bytes_below (Below.trans HB1.out (Below.mono (Below.trans HBL.out HB5.out) (Below.size HB1.out))) hB 5 S
   | cons h t =>
    have hi : i < l0.length := by have h_ := HIT.out; simp only [List.length_cons] at h_; omega
    have ci : decide ((i : Int) < (l0.length : Int)) = true := decide_eq_true (by omega)
    have hh : rd_T36 l0 (i : Int) = h := by
     unfold rd_T36
     rw [Int.toNat_natCast, List.getD_eq_getElem?_getD]
     have h_ := congrArg List.head? HT.out
     rw [List.head?_drop] at h_
     rw [h_]
     rfl
    have hf := HFT.out
    unfold htext.fine at hf
    rw [List.all_cons, Bool.and_eq_true] at hf
    simp only [Bool.and_eq_true, decide_eq_true_eq] at hf
    obtain ⟨⟨⟨⟨f1, f2⟩, f3⟩, f4⟩, hf⟩ := hf
    clear HFT
    have HFT := Aside0.mk (show htext.fine t = true from hf)
    clear hf
    obtain ⟨na, hna⟩ : ∃ na : Nat, na = h.f0.toNat := ⟨_, rfl⟩
    have hnz : h.f0 = (na : Int) := by omega
    have NA0 := Aside0.mk (show na < 100 by omega)
    have NA1 := Aside0.mk f3
    have NA2 := Aside0.mk f4
    have HNA := Aside0.mk hna
    clear f1 f2 f3 f4 hna
    obtain ⟨ad, Ah1, ch1, Ah2, ch2, rfl, hx0, hx1, hx2, hl1, hi1, hl2, hi2⟩ := at_T36 HRW1.out (i : Int) (by omega) (by omega)
    simp only [Int.toNat_natCast] at hx0 hx1 hx2
    rw [hh] at hx0 hx1 hx2 hl1 hi1 hl2 hi2
    rw [hnz] at hx0
    have CH1 := Aside0.mk hi1
    have CH2 := Aside0.mk hi2
    replace hx0 := (HBL.out.cell (World.block_lt_of_cell? _ _ hx0)).trans hx0
    replace hx1 := (HBL.out.cell (World.block_lt_of_cell? _ _ hx1)).trans hx1
    replace hx2 := (HBL.out.cell (World.block_lt_of_cell? _ _ hx2)).trans hx2
    have p0 : (0 : Int) ≤ (i : Int) := by omega
    have p1 : (i : Int) < (l0.length : Int) := by omega
    clear hi1 hi2 hl1 hl2 hnz hh
    go_upto_region 8 with ((with_reducible refine gate_dst (N := 7) rfl ?_); refine box_event ?hg (N := 7) ?hd (cs := #[.int .i64 0, .slice none 0 0, .slice none 0 0]) (t := 36) ?hr ?_; (case hd => rfl); (case hg => rfl); (case hr => first | (go_simp; done) | (go_simp; rfl)); intro hb hbe w7 hbox hb7; have BK7 := Aside0.mk hbox; have HB7 := Aside0.mk (below_then HBL.out (Below.size HBL.out) hb7); have HBE7 := Aside0.mk hbe; have HGW := Aside0.mk hb7; clear hbox hb7 hbe; have hcz0 : w7.cell? ⟨hb, 0, none⟩ = some (.int .i64 0) := (blk_cell BK7.out 0).trans rfl; have hcz1 : w7.cell? ⟨hb, 1, none⟩ = some (.slice none 0 0) := (blk_cell BK7.out 1).trans rfl; have hcz2 : w7.cell? ⟨hb, 2, none⟩ = some (.slice none 0 0) := (blk_cell BK7.out 2).trans rfl; have hfz0 := blk_frozen BK7.out 0; have hfz1 := blk_frozen BK7.out 1; have hfz2 := blk_frozen BK7.out 2)
    have HNE := Aside0.mk (show hb ≠ hbb by have h_ := HBE7.out; have h2_ : hbb < wr.heap.size := HBU.out.elim (fun h => h.lt) (fun h => h.lt); omega)
    have BK8 := Aside0.mk (blk_put (blk_put (blk_put BK7.out 0 (.int .i64 (na : Int)) rfl) 1 (.slice Ah1 h.f1.length ch1) rfl) 2 (.slice Ah2 h.f2.length ch2) rfl)
    obtain ⟨W, hW⟩ : ∃ W, W = ((w7.setCell ⟨hb, 0, none⟩ (.int .i64 (na : Int))).setCell ⟨hb, 1, none⟩ (.slice Ah1 h.f1.length ch1)).setCell ⟨hb, 2, none⟩ (.slice Ah2 h.f2.length ch2) := ⟨_, rfl⟩
    rw [← hW] at BK8
    rw [← hW]
    have HGW8 := Aside0.mk (show Below wr.heap.size wr W by rw [hW]; exact below_set (below_set (below_set HGW.out (by rw [HBE7.out]; exact Nat.le_refl _)) (by rw [HBE7.out]; exact Nat.le_refl _)) (by rw [HBE7.out]; exact Nat.le_refl _))
    clear hW hcz0 hcz1 hcz2 hfz0 hfz1 hfz2 BK7 HB7 HGW hx0 hx1 hx2
    have HBU8 := Aside0.mk (htext.keepF HBU.out HGW8.out)
    have HBL8 := Aside0.mk (below_then HBL.out (Below.size HBL.out) HGW8.out)
    clear HBU HBL HGW8
    have HBU := HBU8
    have HBL := HBL8
    have BK := BK8
    clear HBU8 HBL8 BK8
    obtain ⟨SA, hSA⟩ : ∃ SA, SA = htext.rows 45 h.f1 (S ++ htext.headS na h.f1.length h.f2.length) := ⟨_, rfl⟩
    obtain ⟨SB, hSB⟩ : ∃ SB, SB = htext.rows 43 h.f2 SA := ⟨_, rfl⟩
    have HSA := Aside0.mk hSA.symm
    have HSB := Aside0.mk hSB.symm
    have HALL2 := Aside0.mk (show htext.all t SB = TOT by rw [hSB, hSA, HNA.out]; exact HALL.out)
    have HTOT := Aside0.mk (show SB.size ≤ 1000000000 ∧ SA.size ≤ SB.size by
     have h1_ := htext.all_size t SB
     rw [HALL2.out] at h1_
     have h2_ := HSZ.out
     have h3_ := htext.rows_size 43 h.f2 SA
     rw [← hSB] at h3_
     omega)
    have HLE := Aside0.mk (show (Lib.strCells S).length + (htext.headS na h.f1.length h.f2.length).size ≤ 140737488355328 by
     rw [Lib.strCells_length, ← ByteArray.size_append]
     have h1_ := htext.rows_size 45 h.f1 (S ++ htext.headS na h.f1.length h.f2.length)
     rw [← hSA] at h1_
     have h2_ := HTOT.out
     omega)
    clear hSA hSB HALL
    have HALL := HALL2
    clear HALL2
    have HSZ0 := Aside0.mk (show w1.heap.size ≤ W.drew.heap.size from (by have h_ := Below.size HBL.out; exact h_))
    have HBUd := Aside0.mk (show Lib.IsBuilderF 56 5 w1.heap.size hbb (Lib.strCells S) W.drew from htext.keepF HBU.out (below_drew (Below.refl _ _)))
    have dl0 : (Lib.decDigits na).length ≤ 2 := htext.dec_len NA0.out
    have dl1 : (Lib.decDigits h.f1.length).length ≤ 2 := htext.dec_len NA1.out
    have dl2 : (Lib.decDigits h.f2.length).length ≤ 2 := htext.dec_len NA2.out
    have k0_ : (9223372036854775807 < 1 + (Lib.decDigits na).length) = False := eq_false (by omega)
    have k1_ : (9223372036854775807 < 1 + (Lib.decDigits na).length + 1) = False := eq_false (by omega)
    have k2_ : (9223372036854775807 < 1 + (Lib.decDigits na).length + 1 + (Lib.decDigits h.f1.length).length) = False := eq_false (by omega)
    have k3_ : (9223372036854775807 < 1 + (Lib.decDigits na).length + 1 + (Lib.decDigits h.f1.length).length + 1) = False := eq_false (by omega)
    have k4_ : (9223372036854775807 < 1 + (Lib.decDigits na).length + 1 + (Lib.decDigits h.f1.length).length + 1 + (Lib.decDigits h.f2.length).length) = False := eq_false (by omega)
    have k5_ : (9223372036854775807 < 1 + (Lib.decDigits na).length + 1 + (Lib.decDigits h.f1.length).length + 1 + (Lib.decDigits h.f2.length).length + 1) = False := eq_false (by omega)
    refine start_ (n := 18) (S := fun w' => w'.cell? ⟨hb, 0, none⟩ = some (.int .i64 (na : Int)) ∧ w'.cell? ⟨hb, 1, none⟩ = some (.slice Ah1 h.f1.length ch1) ∧ w'.cell? ⟨hb, 2, none⟩ = some (.slice Ah2 h.f2.length ch2)) (ds := [17]) #[false, false, false, false, false, false, false, false, false, false, false, false, false, false, false, false, false, false] (by kernel_rfl) rfl rfl ⟨((blk_cell (blk_drew BK.out) 0).trans rfl), ((blk_cell (blk_drew BK.out) 1).trans rfl), ((blk_cell (blk_drew BK.out) 2).trans rfl)⟩ (fun hHeld => ?_)
    refine pure_ (i := 0) (N := some 23) (v := ?_) (a' := ?_) #[true, false, false, false, false, false, false, false, false, false, false, false, false, false, false, false, false, false] rfl rfl (by kernel_rfl) (fun _ _ _ h => h) (Or.inl ⟨by rfl, ?_⟩) ?_ ?_
    rotate_left
    ·intro w'
     go_simp
     with_reducible rfl
    rotate_left
    ·simp only [Act.put, List.setIfInBounds_toArray, List.set_cons_zero, List.set_cons_succ, i64_w, i32_w]
     rfl
    refine pure_ (i := 5) (N := some 28) (v := ?_) (a' := ?_) #[true, false, false, false, false, true, false, false, false, false, false, false, false, false, false, false, false, false] rfl rfl (by kernel_rfl) (fun _ _ _ h => h) (Or.inl ⟨by rfl, ?_⟩) ?_ ?_
    rotate_left
    ·intro w'
     go_simp
     with_reducible rfl
    rotate_left
    ·simp only [Act.put, List.setIfInBounds_toArray, List.set_cons_zero, List.set_cons_succ, i64_w, i32_w]
     rfl
    refine pure_ (i := 11) (N := some 34) (v := ?_) (a' := ?_) #[true, false, false, false, false, true, false, false, false, false, false, true, false, false, false, false, false, false] rfl rfl (by kernel_rfl) (fun _ _ _ h => h) (Or.inl ⟨by rfl, ?_⟩) ?_ ?_
    rotate_left
    ·intro w'
     go_simp
     with_reducible rfl
    rotate_left
    ·simp only [Act.put, List.setIfInBounds_toArray, List.set_cons_zero, List.set_cons_succ, i64_w, i32_w]
     rfl
    refine take_ (i := 1) (N := some 24) (v := ?_) (a' := ?_) #[true, true, false, false, false, true, false, false, false, false, false, true, false, false, false, false, false, false] rfl rfl (by kernel_rfl) (fun _ _ _ h => h) (Or.inl ⟨by rfl, ?_⟩) hHeld ?_ ?_
    rotate_left
    ·rintro w' ⟨s0, s1, s2⟩
     go_simp
     with_reducible rfl
    rotate_left
    ·simp only [Act.put, List.setIfInBounds_toArray, List.set_cons_zero, List.set_cons_succ, i64_w, i32_w]
     rfl
    refine take_ (i := 6) (N := some 29) (v := ?_) (a' := ?_) #[true, true, false, false, false, true, true, false, false, false, false, true, false, false, false, false, false, false] rfl rfl (by kernel_rfl) (fun _ _ _ h => h) (Or.inl ⟨by rfl, ?_⟩) hHeld ?_ ?_
    rotate_left
    ·rintro w' ⟨s0, s1, s2⟩
     go_simp
     with_reducible rfl
    rotate_left
    ·simp only [Act.put, List.setIfInBounds_toArray, List.set_cons_zero, List.set_cons_succ, i64_w, i32_w]
     rfl
    refine pure_ (i := 7) (N := some 30) (v := ?_) (a' := ?_) #[true, true, false, false, false, true, true, true, false, false, false, true, false, false, false, false, false, false] rfl rfl (by kernel_rfl) (fun _ _ _ h => h) (Or.inl ⟨by rfl, ?_⟩) ?_ ?_
    rotate_left
    ·intro w'
     go_simp
     with_reducible rfl
    rotate_left
    ·simp only [Act.put, List.setIfInBounds_toArray, List.set_cons_zero, List.set_cons_succ, i64_w, i32_w]
     rfl
    refine take_ (i := 12) (N := some 35) (v := ?_) (a' := ?_) #[true, true, false, false, false, true, true, true, false, false, false, true, true, false, false, false, false, false] rfl rfl (by kernel_rfl) (fun _ _ _ h => h) (Or.inl ⟨by rfl, ?_⟩) hHeld ?_ ?_
    rotate_left
    ·rintro w' ⟨s0, s1, s2⟩
     go_simp
     with_reducible rfl
    rotate_left
    ·simp only [Act.put, List.setIfInBounds_toArray, List.set_cons_zero, List.set_cons_succ, i64_w, i32_w]
     rfl
    refine pure_ (i := 13) (N := some 36) (v := ?_) (a' := ?_) #[true, true, false, false, false, true, true, true, false, false, false, true, true, true, false, false, false, false] rfl rfl (by kernel_rfl) (fun _ _ _ h => h) (Or.inl ⟨by rfl, ?_⟩) ?_ ?_
    rotate_left
    ·intro w'
     go_simp
     with_reducible rfl
    rotate_left
    ·simp only [Act.put, List.setIfInBounds_toArray, List.set_cons_zero, List.set_cons_succ, i64_w, i32_w]
     rfl
    refine one_ (i := 2) (N := some 25) #[true, true, true, false, false, true, true, true, false, false, false, true, true, true, false, false, false, false] rfl rfl (by kernel_rfl) (by decide) (fun K hK => ?_)
    refine goes_ Tryd.func28 (by kernel_rfl) rfl #[.int .i64 ((na : Nat) : Int)] (by rfl) rfl rfl (by simp only [List.map_toArray, List.map_cons, List.map_nil]; rfl) ?_
    with_reducible refine (Tryd.strconv_Itoa_small na NA0.out _).mono ?_
    rintro e_ w_ ⟨rfl, rfl⟩
    refine ⟨_, rfl, ?_⟩
    refine hK.out _ _ ⟨hHeld.1, hHeld.2.1, hHeld.2.2⟩ (fun hHeld => ?_)
    clear hK K
    refine norm_ (a' := ?_) ?_ ?_
    rotate_left
    ·show Act.put _ (some 25) _ = _
     simp only [Act.put, List.setIfInBounds_toArray, List.set_cons_zero, List.set_cons_succ, i64_w, i32_w]
     rfl
    refine pure_ (i := 3) (N := some 26) (v := ?_) (a' := ?_) #[true, true, true, true, false, true, true, true, false, false, false, true, true, true, false, false, false, false] rfl rfl (by kernel_rfl) (fun _ _ _ h => h) (Or.inl ⟨by rfl, ?_⟩) ?_ ?_
    rotate_left
    ·intro w'
     go_simp
     with_reducible rfl
    rotate_left
    ·simp only [Act.put, List.setIfInBounds_toArray, List.set_cons_zero, List.set_cons_succ, i64_w, i32_w]
     rfl
    refine pure_ (i := 4) (N := some 27) (v := ?_) (a' := ?_) #[true, true, true, true, true, true, true, true, false, false, false, true, true, true, false, false, false, false] rfl rfl (by kernel_rfl) (fun _ _ _ h => h) (Or.inl ⟨by rfl, ?_⟩) ?_ ?_
    rotate_left
    ·intro w'
     go_simp
     with_reducible rfl
    rotate_left
    ·simp only [Act.put, List.setIfInBounds_toArray, List.set_cons_zero, List.set_cons_succ, i64_w, i32_w]
     rfl
    refine one_ (i := 8) (N := some 31) #[true, true, true, true, true, true, true, true, true, false, false, true, true, true, false, false, false, false] rfl rfl (by kernel_rfl) (by decide) (fun K hK => ?_)
    refine goes_ Tryd.func28 (by kernel_rfl) rfl #[.int .i64 ((h.f1.length : Nat) : Int)] (by rfl) rfl rfl (by simp only [List.map_toArray, List.map_cons, List.map_nil]; rfl) ?_
    with_reducible refine (Tryd.strconv_Itoa_small h.f1.length NA1.out _).mono ?_
    rintro e_ w_ ⟨rfl, rfl⟩
    refine ⟨_, rfl, ?_⟩
    refine hK.out _ _ ⟨hHeld.1, hHeld.2.1, hHeld.2.2⟩ (fun hHeld => ?_)
    clear hK K
    refine norm_ (a' := ?_) ?_ ?_
    rotate_left
    ·show Act.put _ (some 31) _ = _
     simp only [Act.put, List.setIfInBounds_toArray, List.set_cons_zero, List.set_cons_succ, i64_w, i32_w]
     rfl
    refine pure_ (i := 9) (N := some 32) (v := ?_) (a' := ?_) #[true, true, true, true, true, true, true, true, true, true, false, true, true, true, false, false, false, false] rfl rfl (by kernel_rfl) (fun _ _ _ h => h) (Or.inl ⟨by rfl, ?_⟩) ?_ ?_
    rotate_left
    ·intro w'
     go_simp
     with_reducible rfl
    rotate_left
    ·simp only [Act.put, List.setIfInBounds_toArray, List.set_cons_zero, List.set_cons_succ, i64_w, i32_w]
     rfl
    refine pure_ (i := 10) (N := some 33) (v := ?_) (a' := ?_) #[true, true, true, true, true, true, true, true, true, true, true, true, true, true, false, false, false, false] rfl rfl (by kernel_rfl) (fun _ _ _ h => h) (Or.inl ⟨by rfl, ?_⟩) ?_ ?_
    rotate_left
    ·intro w'
     go_simp
     with_reducible rfl
    rotate_left
    ·simp only [Act.put, List.setIfInBounds_toArray, List.set_cons_zero, List.set_cons_succ, i64_w, i32_w]
     rfl
    refine one_ (i := 14) (N := some 37) #[true, true, true, true, true, true, true, true, true, true, true, true, true, true, true, false, false, false] rfl rfl (by kernel_rfl) (by decide) (fun K hK => ?_)
    refine goes_ Tryd.func28 (by kernel_rfl) rfl #[.int .i64 ((h.f2.length : Nat) : Int)] (by rfl) rfl rfl (by simp only [List.map_toArray, List.map_cons, List.map_nil]; rfl) ?_
    with_reducible refine (Tryd.strconv_Itoa_small h.f2.length NA2.out _).mono ?_
    rintro e_ w_ ⟨rfl, rfl⟩
    refine ⟨_, rfl, ?_⟩
    refine hK.out _ _ ⟨hHeld.1, hHeld.2.1, hHeld.2.2⟩ (fun hHeld => ?_)
    clear hK K
    refine norm_ (a' := ?_) ?_ ?_
    rotate_left
    ·show Act.put _ (some 37) _ = _
     simp only [Act.put, List.setIfInBounds_toArray, List.set_cons_zero, List.set_cons_succ, i64_w, i32_w]
     rfl
    refine pure_ (i := 15) (N := some 38) (v := ?_) (a' := ?_) #[true, true, true, true, true, true, true, true, true, true, true, true, true, true, true, true, false, false] rfl rfl (by kernel_rfl) (fun _ _ _ h => h) (Or.inl ⟨by rfl, ?_⟩) ?_ ?_
    rotate_left
    ·intro w'
     go_simp
     with_reducible rfl
    rotate_left
    ·simp only [Act.put, List.setIfInBounds_toArray, List.set_cons_zero, List.set_cons_succ, i64_w, i32_w]
     rfl
    refine pure_ (i := 16) (N := some 39) (v := ?_) (a' := ?_) #[true, true, true, true, true, true, true, true, true, true, true, true, true, true, true, true, true, false] rfl rfl (by kernel_rfl) (fun _ _ _ h => h) (Or.inl ⟨by rfl, ?_⟩) ?_ ?_
    rotate_left
    ·intro w'
     go_simp
     with_reducible rfl
    rotate_left
    ·simp only [Act.put, List.setIfInBounds_toArray, List.set_cons_zero, List.set_cons_succ, i64_w, i32_w]
     rfl
    refine last_ (i := 17) (N := some 40) #[true, true, true, true, true, true, true, true, true, true, true, true, true, true, true, true, true, true] rfl rfl (by kernel_rfl) (by decide) (fun K hK => ?_)
    refine goes_ Tryd.func27 (by kernel_rfl) rfl #[.pointer (some ⟨hbb, 0, none⟩), .string (htext.headS na h.f1.length h.f2.length)] (by rfl) rfl rfl (by simp only [List.map_toArray, List.map_cons, List.map_nil]; rfl) ?_
    with_reducible refine (build_write w1.heap.size hbb (Lib.strCells S) (htext.headS na h.f1.length h.f2.length) _ HBUd.out HLE.out HSZ0.out).mono ?_
    rintro e_ w5 ⟨rfl, hbu5, hb5, hok5⟩
    refine ⟨_, rfl, ?_⟩
    have HBU5 := Aside0.mk hbu5
    have HB5 := Aside0.mk hb5
    have HOK5 := Aside0.mk hok5
    clear hbu5 hb5 hok5
    refine hK.out _ _ ?_
    clear hK K
    refine norm_ (a' := ?_) ?_ ?_
    rotate_left
    ·show Act.put _ (some 40) _ = _
     simp only [Act.put, List.setIfInBounds_toArray, List.set_cons_zero, List.set_cons_succ, i64_w, i32_w]
     rfl
    refine done_ (by kernel_rfl) ?_
    clear dl0 dl1 dl2 k0_ k1_ k2_ k3_ k4_ k5_
    have HBU8 := Aside0.mk (show Lib.IsBuilderF 56 5 w1.heap.size hbb (Lib.strCells (S ++ htext.headS na h.f1.length h.f2.length)) w5 from .inr (by rw [htext.cells]; exact HBU5.out))
    have BK8 := Aside0.mk (HOK5.out hb _ (blk_drew BK.out) (fun he => HNE.out (Option.some.inj he)) (fun c_ fz_ he => by injection he with _ h2_; exact absurd h2_ (by decide)))
    have HBL8 := Aside0.mk (Below.trans (Below.trans HBL.out (below_drew (Below.refl _ _))) HB5.out)
    clear HBU BK HBL HBU5 HB5 HOK5 HLE HSZ0 HBUd
    have HBU := HBU8
    have HBL := HBL8
    have BK := BK8
    clear HBU8 HBL8 BK8
    have hcA := (blk_cell BK.out 1).trans rfl
    obtain ⟨v40, hv40⟩ : ∃ v, v = Value.tuple #[.int .i64 ((htext.headS na h.f1.length h.f2.length).size : Int), .nilIface] := ⟨_, rfl⟩
    rw [← hv40]
    clear hv40
    go_wp2
    go_loopg [44] h.f1.length (fun nq vj wr => ∃ (j : Nat) (t2 : List ByteArray) (S2 : ByteArray), t2.length = nq ∧ vj = .int .i64 (j : Int) ∧ Aside0 (j + t2.length = h.f1.length) ∧ Aside0 (h.f1.drop j = t2) ∧ Aside0 (htext.rows 45 t2 S2 = SA) ∧ Aside0 (Lib.IsBuilderF 56 5 w1.heap.size hbb (Lib.strCells S2) wr) ∧ Aside0 (wr.heap[hb]? = some (.cells #[.int .i64 (na : Int), .slice Ah1 h.f1.length ch1, .slice Ah2 h.f2.length ch2] 36 (0, 0))) ∧ Aside0 (Below w1.heap.size w1 wr))
    case atStart => exact ⟨0, h.f1, (S ++ htext.headS na h.f1.length h.f2.length), rfl, rfl, ⟨Nat.zero_add _⟩, ⟨rfl⟩, HSA, HBU, BK, HBL⟩
    case round =>
     clear HBU BK HBL
     obtain ⟨j, t2, S2, hnq, rfl, HJT, HD2, HS2, HBU, BK, HBL⟩ := hrel
     have HNQ := Aside0.mk hnq
     clear hnq
     cases t2 with
     | nil =>
      have hj : j = h.f1.length := by simpa using HJT.out
      have cj : decide ((j : Int) < (h.f1.length : Int)) = false := decide_eq_false (by omega)
      have cj2 : decide (j < h.f1.length) = false := decide_eq_false (by omega)
      have cj3 : (j < h.f1.length) = False := eq_false (by omega)
      have hS2 : S2 = SA := HS2.out
      rw [hS2] at HBU
      clear HS2 hj hS2 HD2 HJT HNQ
      have hcB := (blk_cell BK.out 2).trans rfl
      go_wp2
      go_loopg [56] h.f2.length (fun nq vj wr => ∃ (j : Nat) (t2 : List ByteArray) (S2 : ByteArray), t2.length = nq ∧ vj = .int .i64 (j : Int) ∧ Aside0 (j + t2.length = h.f2.length) ∧ Aside0 (h.f2.drop j = t2) ∧ Aside0 (htext.rows 43 t2 S2 = SB) ∧ Aside0 (Lib.IsBuilderF 56 5 w1.heap.size hbb (Lib.strCells S2) wr) ∧ Aside0 (wr.heap[hb]? = some (.cells #[.int .i64 (na : Int), .slice Ah1 h.f1.length ch1, .slice Ah2 h.f2.length ch2] 36 (0, 0))) ∧ Aside0 (Below w1.heap.size w1 wr))
      case atStart => exact ⟨0, h.f2, SA, rfl, rfl, ⟨Nat.zero_add _⟩, ⟨rfl⟩, HSB, HBU, BK, HBL⟩
      case round =>
       clear HBU BK HBL
       obtain ⟨j, t2, S2, hnq, rfl, HJT, HD2, HS2, HBU, BK, HBL⟩ := hrel
       have HNQ := Aside0.mk hnq
       clear hnq
       cases t2 with
       | nil =>
        have hj : j = h.f2.length := by simpa using HJT.out
        have cj : decide ((j : Int) < (h.f2.length : Int)) = false := decide_eq_false (by omega)
        have cj2 : decide (j < h.f2.length) = false := decide_eq_false (by omega)
        have cj3 : (j < h.f2.length) = False := eq_false (by omega)
        have hS2 : S2 = SB := HS2.out
        rw [hS2] at HBU
        clear HS2 hj hS2 HD2 HJT HNQ
        go_wp2
        go_roundg t.length
        case measure => rw [← HNQ0.out]; exact Nat.lt_succ_self _
        case rel => exact ⟨i + 1, t, SB, rfl, by go_num, ⟨by have h_ := HIT.out; simp only [List.length_cons] at h_; omega⟩, ⟨by have h_ := congrArg List.tail HT.out; rw [List.tail_drop] at h_; exact h_⟩, HFT, HALL, HBU, HBL⟩
       | cons s t2 =>
        have hj : j < h.f2.length := by have h_ := HJT.out; simp only [List.length_cons] at h_; omega
        have hlb : h.f2.length < 100 := NA2.out
        have HJN := Aside0.mk (show j + 1 + t2.length = h.f2.length by have h_ := HJT.out; rw [List.length_cons] at h_; omega)
        have cj : decide ((j : Int) < (h.f2.length : Int)) = true := decide_eq_true (by omega)
        have hsj : h.f2[j]? = some s := by
         have h_ := congrArg List.head? HD2.out
         rw [List.head?_drop] at h_
         exact h_
        obtain ⟨b0, o0, e0_, hb0, hs0c⟩ := C_strings (Kd.C_below CH2.out HBL.out) (by omega)
        have hx0 := hs0c j s hsj
        have HSW := Aside0.mk (show w1.heap.size ≤ wr.heap.size from Below.size HBL.out)
        have HTO2 := Aside0.mk (show (S2 ++ htext.line 43 s).size ≤ 1000000000 by
         have h1_ := htext.rows_size 43 t2 (S2 ++ htext.line 43 s)
         have h3_ := HTOT.out
         have h4_ : (htext.rows 43 t2 (S2 ++ htext.line 43 s)).size = (SB).size := congrArg ByteArray.size HS2.out
         omega)
        have HLE := Aside0.mk (show (Lib.strCells S2).length + (htext.line 43 s).size ≤ 140737488355328 by
         rw [Lib.strCells_length, ← ByteArray.size_append]
         have h_ := HTO2.out
         omega)
        have hss : s.size ≤ 1000000000 := by
         have h_ := HTO2.out
         rw [ByteArray.size_append, ByteArray.size_append, ByteArray.size_append] at h_
         omega
        have k0_ : (9223372036854775807 < 1 + s.size) = False := eq_false (by omega)
        have k1_ : (9223372036854775807 < 1 + s.size + 1) = False := eq_false (by omega)
        have j0 : (0 : Int) ≤ (j : Int) := by omega
        have j1 : (j : Int) < (h.f2.length : Int) := by omega
        clear hs0c hsj
        subst e0_
        go_wp2_with (go_at_call 27; (with_reducible refine (build_write w1.heap.size hbb (Lib.strCells S2) (htext.line 43 s) _ HBU.out HLE.out HSW.out).mono ?_); rintro e_ w5 ⟨rfl, hbu5, hb5, hok5⟩; have HBU5 := Aside0.mk hbu5; have HB5 := Aside0.mk hb5; have HOK5 := Aside0.mk hok5; clear hbu5 hb5 hok5)
        go_roundg t2.length
        case measure => rw [← HNQ.out]; exact Nat.lt_succ_self _
        case rel => exact ⟨j + 1, t2, S2 ++ htext.line 43 s, rfl, by go_num, HJN, ⟨by have h_ := congrArg List.tail HD2.out; rw [List.tail_drop] at h_; exact h_⟩, ⟨HS2.out⟩, ⟨.inr (by rw [htext.cells]; exact HBU5.out)⟩, ⟨HOK5.out hb _ BK.out (fun he => HNE.out (Option.some.inj he)) (fun c_ fz_ he => by injection he with _ h2_; exact absurd h2_ (by decide))⟩, ⟨Below.trans HBL.out HB5.out⟩⟩
     | cons s t2 =>
      have hj : j < h.f1.length := by have h_ := HJT.out; simp only [List.length_cons] at h_; omega
      have hlb : h.f1.length < 100 := NA1.out
      have HJN := Aside0.mk (show j + 1 + t2.length = h.f1.length by have h_ := HJT.out; rw [List.length_cons] at h_; omega)
      have cj : decide ((j : Int) < (h.f1.length : Int)) = true := decide_eq_true (by omega)
      have hsj : h.f1[j]? = some s := by
       have h_ := congrArg List.head? HD2.out
       rw [List.head?_drop] at h_
       exact h_
      obtain ⟨b0, o0, e0_, hb0, hs0c⟩ := C_strings (Kd.C_below CH1.out HBL.out) (by omega)
      have hx0 := hs0c j s hsj
      have HSW := Aside0.mk (show w1.heap.size ≤ wr.heap.size from Below.size HBL.out)
      have HTO2 := Aside0.mk (show (S2 ++ htext.line 45 s).size ≤ 1000000000 by
       have h1_ := htext.rows_size 45 t2 (S2 ++ htext.line 45 s)
       have h3_ := HTOT.out
       have h4_ : (htext.rows 45 t2 (S2 ++ htext.line 45 s)).size = (SA).size := congrArg ByteArray.size HS2.out
       omega)
      have HLE := Aside0.mk (show (Lib.strCells S2).length + (htext.line 45 s).size ≤ 140737488355328 by
       rw [Lib.strCells_length, ← ByteArray.size_append]
       have h_ := HTO2.out
       omega)
      have hss : s.size ≤ 1000000000 := by
       have h_ := HTO2.out
       rw [ByteArray.size_append, ByteArray.size_append, ByteArray.size_append] at h_
       omega
      have k0_ : (9223372036854775807 < 1 + s.size) = False := eq_false (by omega)
      have k1_ : (9223372036854775807 < 1 + s.size + 1) = False := eq_false (by omega)
      have j0 : (0 : Int) ≤ (j : Int) := by omega
      have j1 : (j : Int) < (h.f1.length : Int) := by omega
      clear hs0c hsj
      subst e0_
      go_wp2_with (go_at_call 27; (with_reducible refine (build_write w1.heap.size hbb (Lib.strCells S2) (htext.line 45 s) _ HBU.out HLE.out HSW.out).mono ?_); rintro e_ w5 ⟨rfl, hbu5, hb5, hok5⟩; have HBU5 := Aside0.mk hbu5; have HB5 := Aside0.mk hb5; have HOK5 := Aside0.mk hok5; clear hbu5 hb5 hok5)
      go_roundg t2.length
      case measure => rw [← HNQ.out]; exact Nat.lt_succ_self _
      case rel => exact ⟨j + 1, t2, S2 ++ htext.line 45 s, rfl, by go_num, HJN, ⟨by have h_ := congrArg List.tail HD2.out; rw [List.tail_drop] at h_; exact h_⟩, ⟨HS2.out⟩, ⟨.inr (by rw [htext.cells]; exact HBU5.out)⟩, ⟨HOK5.out hb _ BK.out (fun he => HNE.out (Option.some.inj he)) (fun c_ fz_ he => by injection he with _ h2_; exact absurd h2_ (by decide))⟩, ⟨Below.trans HBL.out HB5.out⟩⟩
 ·rw [if_neg he] at h
  obtain ⟨rfl, rfl⟩ := Prod.mk.inj (Option.some.inj h)
  clear h
  have e1 : (ce == 0) = false := by simpa using he
  have e2 : (ce != 0) = true := by simpa using he
  go_enter Tryd.func17, Tryd.ntmps17
  go_wp2_with (go_at_call 16; (with_reducible refine (hunk_Check.calls k A0 c0 l0 ce _ HR0.out HC0.out HCE.out).mono ?_); rintro e_ w1 ⟨rfl, hb1⟩; have HB1 := Aside0.mk hb1; clear hb1)
  go_ret2
  exact ⟨_, rfl, Kd.V_nil _ _ _ _ _, HB1.out⟩
end Go.Proofs.YtognfinkolpemaaDoor.Pr
end
section
namespace Go.Proofs.YtognfinkolpemaaDoor.Pr
open Go.RowKit Go.Proofs.YtognfinkolpemaaDoorW.PrintWords Go.Proofs.YtognfinkolpemaaDoorW.PrintLast Go.Proofs.YtognfinkolpemaaDoorW.PrintMore
def pairA {α β : Type} (a : Kd α) (b : Kd β) : Kd (α × β) where
 sz := a.sz + b.sz
 E := a.E ++ b.E
 K := (Kd.pair a b).K
 M := fun w base ok x cs => ∃ p : Nat → Prop, ∃ c0 c1, cs = c0 ++ c1 ∧ a.M w base (fun k => ok k ∧ p k) x.1 c0 ∧ b.M w base (fun k => ok k ∧ ¬ p k) x.2 c1
 K_len := (Kd.pair a b).K_len
 K_one := (Kd.pair a b).K_one
 K_below := (Kd.pair a b).K_below
 K_of_M := by
  rintro w base ok x cs ⟨p, c0, c1, rfl, h0, h1⟩
  exact ⟨c0, c1, rfl, a.K_of_M h0, b.K_of_M h1⟩
 M_mono := by
  rintro w base ok ok' x cs hok ⟨p, c0, c1, rfl, h0, h1⟩
  exact ⟨p, c0, c1, rfl, a.M_mono (fun k hk => ⟨hok k hk.1, hk.2⟩) h0, b.M_mono (fun k hk => ⟨hok k hk.1, hk.2⟩) h1⟩
 M_bound := by
  rintro w base ok x cs ⟨p, c0, c1, rfl, h0, h1⟩
  refine ⟨p, c0, c1, rfl, a.M_mono ?_ (a.M_bound h0), b.M_mono ?_ (b.M_bound h1)⟩
  ·rintro k ⟨h2, h3, h4, q, hq, hc⟩
   exact ⟨⟨h2.1, h3, h4, q, List.mem_append_left _ hq, hc⟩, h2.2⟩
  ·rintro k ⟨h2, h3, h4, q, hq, hc⟩
   exact ⟨⟨h2.1, h3, h4, q, List.mem_append_right _ hq, hc⟩, h2.2⟩
 M_move := by
  rintro w w1 base ok x cs hm ⟨p, c0, c1, rfl, h0, h1⟩
  exact ⟨p, c0, c1, rfl, a.M_move (fun k hk => hm k hk.1) h0, b.M_move (fun k hk => hm k hk.1) h1⟩
 M_lower := by
  rintro w base base' ok x cs hb ⟨p, c0, c1, rfl, h0, h1⟩
  exact ⟨p, c0, c1, rfl, a.M_lower hb h0, b.M_lower hb h1⟩
theorem infoHa : (Tryd.prog.info? 36).map (fun i => (i.zero, i.size, i.bytes)) = some (some (.agg #[(.int .i64 0), (.slice none 0 0), (.slice none 0 0)]), 3, 56) := by kernel_rfl
def kHa : Kd S36 := Kd.iso (Kd.pair (Kd.int .i64) (pairA (Kd.slice 9 Kd.string) (Kd.slice 9 Kd.string))) (fun x : S36 => (x.f0, x.f1, x.f2))
theorem kHa_openM {w : World} {base : Nat} {ok : Nat → Prop} {x : S36} {cs : List Value} (h : kHa.M w base ok x cs) :
  ∃ (p : Nat → Prop) (v1 v2 : Value), cs = [.int .i64 x.f0, v1, v2] ∧ Kd.string.R 9 w base (fun k => ok k ∧ p k) v1 x.f1 ∧ Kd.string.R 9 w base (fun k => ok k ∧ ¬ p k) v2 x.f2 := by
 obtain ⟨_, _, rfl, rfl, ⟨p, _, _, rfl, ⟨v1, rfl, g1⟩, ⟨v2, rfl, g2⟩⟩⟩ := h
 exact ⟨p, v1, v2, rfl, g1, g2⟩
theorem kHa_mkM {w : World} {base : Nat} {ok : Nat → Prop} (x : S36) (p : Nat → Prop) {v1 v2 : Value} (g1 : Kd.string.R 9 w base (fun k => ok k ∧ p k) v1 x.f1) (g2 : Kd.string.R 9 w base (fun k => ok k ∧ ¬ p k) v2 x.f2) :
  kHa.M w base ok x [.int .i64 x.f0, v1, v2] :=
 ⟨[.int .i64 x.f0], [v1, v2], rfl, rfl, p, [v1], [v2], rfl, ⟨v1, rfl, g1⟩, ⟨v2, rfl, g2⟩⟩
theorem kHa_weakM {w : World} {base : Nat} {ok : Nat → Prop} {x : S36} {cs : List Value} (h : kHa.M w base ok x cs) : k36.M w base ok x cs := by
 obtain ⟨p, v1, v2, rfl, g1, g2⟩ := kHa_openM h
 exact k36_mkM w base ok x (Kd.R_mono g1 (fun _ hk => hk.1)) (Kd.R_mono g2 (fun _ hk => hk.1))
theorem kHa_weakS {e : Nat} {w : World} {base : Nat} {ok : Nat → Prop} {v : Value} {xs : List S36} (h : Kd.S kHa e w base ok v xs) : Kd.S k36 e w base ok v xs := by
 obtain ⟨f, h0, inner, ho, hr⟩ := h
 exact ⟨f, h0, inner, ho, hr.imp_ (fun _ _ hp => kHa_weakM hp)⟩
theorem kHa_lendg1 {e : Nat} {W : World} {base g n cap : Nat} {ok : Nat → Prop} {xs : List S36} (hS : Kd.S kHa e W base ok (.slice (some ⟨g, 0, none⟩) n cap) xs) (hfs : ∀ k, W.heap.size ≤ k → ok k) (i : Nat) (h1 : i < n) :
  ∃ (v1 : Value) (okr : Nat → Prop), W.cell? ⟨g, i * 3 + 1, none⟩ = some v1 ∧ W.frozen? ⟨g, i * 3 + 1, none⟩ = false ∧ (∀ k, W.heap.size ≤ k → okr k) ∧ (∀ k, okr k → ok k ∧ k ≠ g) ∧ Kd.string.R 9 W base okr v1 (xs.getD i z36).f1 ∧
   ∀ (w1 : World) (v' : Value) (ys : List ByteArray), W.grownBy w1 v1.ownBlock → Kd.string.R 9 w1 base okr v' ys → w1.cell? ⟨g, i * 3 + 1, none⟩ = some v1 ∧ w1.frozen? ⟨g, i * 3 + 1, none⟩ = false ∧
    Kd.S kHa e (w1.setCell ⟨g, i * 3 + 1, none⟩ v') base ok (.slice (some ⟨g, 0, none⟩) n cap) (xs.set i ⟨(xs.getD i z36).f0, ys, (xs.getD i z36).f2⟩) ∧ w1.grownBy (w1.setCell ⟨g, i * 3 + 1, none⟩ v') (some g) := by
 have hlt : g < W.heap.size := Kd.S_lt hS g (by simp [Value.ownBlock])
 have hS' : Kd.S kHa e W base (fun k => ok k ∧ ¬ W.heap.size ≤ k) (.slice (some ⟨g, 0, none⟩) n cap) xs := Kd.S_mono (Kd.S_bound hS) (fun k hk => ⟨hk.1, by have := hk.2.2.1; omega⟩)
 obtain ⟨oki, c, hcl, hM, hcc, hfr, hoki, hH⟩ := Kd.S_elem hS' z36 (i : Int) (by omega) (by omega)
 rw [Int.toNat_natCast] at hM hcc
 simp only [Int.toNat_natCast] at hfr
 obtain ⟨p, v1, v2, rfl, g1, g2⟩ := kHa_openM hM
 have hsz : kHa.sz = 3 := rfl
 rw [hsz] at hcc hfr
 have hr1 : ∀ k, v1.ownBlock = some k → oki k ∧ p k := g1.1
 refine ⟨v1, fun k => (oki k ∧ p k) ∨ W.heap.size ≤ k, hcc 1 v1 rfl, hfr 1, fun k hk => .inr hk, fun k hk => hk.elim (fun h => ⟨(hoki k h.1).1.1, (hoki k h.1).2⟩) (fun h => ⟨hfs k h, by omega⟩), Kd.R_mono g1 (fun _ hk => .inl hk), fun w1 v' ys hg hR => ?_⟩
 have hne : (some g : Option Nat) ≠ v1.ownBlock := fun he => (hoki g (hr1 g he.symm).1).2 rfl
 have hH1 := Kd.H_grown hH hg (fun k hk => (hr1 k hk).1)
 have g2' : Kd.string.R 9 w1 base (fun k => (oki k ∨ W.heap.size ≤ k) ∧ ¬ (p k ∨ W.heap.size ≤ k)) v2 (xs.getD i z36).f2 :=
  Kd.R_mono (Kd.R_grown (Kd.R_bound g2) hg (fun k hk he => hk.1.2 (hr1 k he.symm).2)) (fun k hk => ⟨.inl hk.1.1, fun h => h.elim hk.1.2 (fun h => by have := hk.2.2.1; omega)⟩)
 have g1' : Kd.string.R 9 w1 base (fun k => (oki k ∨ W.heap.size ≤ k) ∧ (p k ∨ W.heap.size ≤ k)) v' ys := Kd.R_mono hR (fun k hk => hk.elim (fun h => ⟨.inl h.1, .inl h.2⟩) (fun h => ⟨.inr h, .inr h⟩))
 have h3 := Kd.S_seg (okg := fun k => W.heap.size ≤ k) hH1 (by omega) (by omega) (seg := [v']) (j := 1) (by show 1 + 1 ≤ 3; omega)
  (x' := ⟨(xs.getD i z36).f0, ys, (xs.getD i z36).f2⟩) (kHa_mkM ⟨(xs.getD i z36).f0, ys, (xs.getD i z36).f2⟩ (fun k => p k ∨ W.heap.size ≤ k) g1' g2') (fun k hk => hk) (fun k hk => ⟨hfs k hk, by omega⟩)
 rw [Int.toNat_natCast, hsz] at h3
 exact ⟨cell_grown hg (hcc 1 v1 rfl) hne, by rw [hg.frozen_far _ hlt hne]; exact hfr 1, h3.1, h3.2⟩
theorem kHa_lendg2 {e : Nat} {W : World} {base g n cap : Nat} {ok : Nat → Prop} {xs : List S36} (hS : Kd.S kHa e W base ok (.slice (some ⟨g, 0, none⟩) n cap) xs) (hfs : ∀ k, W.heap.size ≤ k → ok k) (i : Nat) (h1 : i < n) :
  ∃ (v2 : Value) (okr : Nat → Prop), W.cell? ⟨g, i * 3 + 2, none⟩ = some v2 ∧ W.frozen? ⟨g, i * 3 + 2, none⟩ = false ∧ (∀ k, W.heap.size ≤ k → okr k) ∧ (∀ k, okr k → ok k ∧ k ≠ g) ∧ Kd.string.R 9 W base okr v2 (xs.getD i z36).f2 ∧
   ∀ (w1 : World) (v' : Value) (ys : List ByteArray), W.grownBy w1 v2.ownBlock → Kd.string.R 9 w1 base okr v' ys → w1.cell? ⟨g, i * 3 + 2, none⟩ = some v2 ∧ w1.frozen? ⟨g, i * 3 + 2, none⟩ = false ∧
    Kd.S kHa e (w1.setCell ⟨g, i * 3 + 2, none⟩ v') base ok (.slice (some ⟨g, 0, none⟩) n cap) (xs.set i ⟨(xs.getD i z36).f0, (xs.getD i z36).f1, ys⟩) ∧ w1.grownBy (w1.setCell ⟨g, i * 3 + 2, none⟩ v') (some g) := by
 have hlt : g < W.heap.size := Kd.S_lt hS g (by simp [Value.ownBlock])
 have hS' : Kd.S kHa e W base (fun k => ok k ∧ ¬ W.heap.size ≤ k) (.slice (some ⟨g, 0, none⟩) n cap) xs := Kd.S_mono (Kd.S_bound hS) (fun k hk => ⟨hk.1, by have := hk.2.2.1; omega⟩)
 obtain ⟨oki, c, hcl, hM, hcc, hfr, hoki, hH⟩ := Kd.S_elem hS' z36 (i : Int) (by omega) (by omega)
 rw [Int.toNat_natCast] at hM hcc
 simp only [Int.toNat_natCast] at hfr
 obtain ⟨p, v1, v2, rfl, g1, g2⟩ := kHa_openM hM
 have hsz : kHa.sz = 3 := rfl
 rw [hsz] at hcc hfr
 have hr2 : ∀ k, v2.ownBlock = some k → oki k ∧ ¬ p k := g2.1
 refine ⟨v2, fun k => (oki k ∧ ¬ p k) ∨ W.heap.size ≤ k, hcc 2 v2 rfl, hfr 2, fun k hk => .inr hk, fun k hk => hk.elim (fun h => ⟨(hoki k h.1).1.1, (hoki k h.1).2⟩) (fun h => ⟨hfs k h, by omega⟩), Kd.R_mono g2 (fun _ hk => .inl hk), fun w1 v' ys hg hR => ?_⟩
 have hne : (some g : Option Nat) ≠ v2.ownBlock := fun he => (hoki g (hr2 g he.symm).1).2 rfl
 have hH1 := Kd.H_grown hH hg (fun k hk => (hr2 k hk).1)
 have g1' : Kd.string.R 9 w1 base (fun k => (oki k ∨ W.heap.size ≤ k) ∧ (p k ∧ ¬ W.heap.size ≤ k)) v1 (xs.getD i z36).f1 :=
  Kd.R_mono (Kd.R_grown (Kd.R_bound g1) hg (fun k hk he => (hr2 k he.symm).2 hk.1.2)) (fun k hk => ⟨.inl hk.1.1, hk.1.2, by have := hk.2.2.1; omega⟩)
 have g2' : Kd.string.R 9 w1 base (fun k => (oki k ∨ W.heap.size ≤ k) ∧ ¬ (p k ∧ ¬ W.heap.size ≤ k)) v' ys := Kd.R_mono hR (fun k hk => hk.elim (fun h => ⟨.inl h.1, fun h2 => h.2 h2.1⟩) (fun h => ⟨.inr h, fun h2 => h2.2 h⟩))
 have h3 := Kd.S_seg (okg := fun k => W.heap.size ≤ k) hH1 (by omega) (by omega) (seg := [v']) (j := 2) (by show 2 + 1 ≤ 3; omega)
  (x' := ⟨(xs.getD i z36).f0, (xs.getD i z36).f1, ys⟩) (kHa_mkM ⟨(xs.getD i z36).f0, (xs.getD i z36).f1, ys⟩ (fun k => p k ∧ ¬ W.heap.size ≤ k) g1' g2') (fun k hk => hk) (fun k hk => ⟨hfs k hk, by omega⟩)
 rw [Int.toNat_natCast, hsz] at h3
 exact ⟨cell_grown hg (hcc 2 v2 rfl) hne, by rw [hg.frozen_far _ hlt hne]; exact hfr 2, h3.1, h3.2⟩
end Go.Proofs.YtognfinkolpemaaDoor.Pr
end
