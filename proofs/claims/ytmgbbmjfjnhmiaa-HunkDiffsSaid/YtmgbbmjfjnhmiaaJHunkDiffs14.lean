/- Part 14 of the proof of HunkDiffs: texts put together. -/
import Derived.Test.YtmgbbmjfjnhmiaaJHunkDiffs3
import Derived.Test.YtmgbbmjfjnhmiaaJHunkDiffs4
import Derived.Test.YtmgbbmjfjnhmiaaJHunkDiffs6
import Derived.Test.YtmgbbmjfjnhmiaaJHunkDiffs11
import Derived.Test.YtmgbbmjfjnhmiaaJHunkDiffs13
set_option linter.unusedVariables false
set_option linter.unusedSimpArgs false
section
namespace Go.Proofs.Ytmgbbmjfjnhmiaa.Pr
open Go.RowKit Go.Proofs.YtmgbbmjfjnhmiaaW.PrintWords Go.Proofs.YtmgbbmjfjnhmiaaW.PrintLast Go.Proofs.YtmgbbmjfjnhmiaaW.PrintMore
attribute [local go_sem] i64_w i32_w max2_int min2_int max_two min_two max_three min_three max_four min_four   
mutual
def hunk_Diff.l0 : Nat → List ByteArray → List ByteArray → List (S40) → Int → Int → List (S45) → Int → Int → Option ((List (S40)) × Int)
  | 0, _, _, _, _, _, _, _, _ => none
  | k + 1, x0, x1, x8, x9, x10, x29, x30, x31 => if x31 < x30 then (if 0 ≤ x31 then (if x31 < (x29.length : Int) then (if ((rd_T45 x29 x31).f0) > x9 then (hunk_Diff.j1 k x0 x1 x8 x9 x10 x29 x30 x31 true ((rd_T45 x29 x31).f0) ((rd_T45 x29 x31).f1)) else (hunk_Diff.j1 k x0 x1 x8 x9 x10 x29 x30 x31 (decide (((rd_T45 x29 x31).f1) > x10)) ((rd_T45 x29 x31).f0) ((rd_T45 x29 x31).f1))) else (none)) else (none)) else (some (x8, 0))
def hunk_Diff.j1 : Nat → List ByteArray → List ByteArray → List (S40) → Int → Int → List (S45) → Int → Int → Bool → Int → Int → Option ((List (S40)) × Int)
  | 0, _, _, _, _, _, _, _, _, _, _, _ => none
  | k + 1, x0, x1, x8, x9, x10, x29, x30, x31, x44, x185000, x185001 => if x44 = true then (if 0 ≤ x9 then (if x9 ≤ x185000 then (if x185000 ≤ (x0.length : Int) then ((slices_Clone.f ((x0.take (x185000 : Int).toNat).drop (x9 : Int).toNat)).bind fun t186 => (if 0 ≤ x10 then (if x10 ≤ x185001 then (if x185001 ≤ (x1.length : Int) then ((slices_Clone.f ((x1.take (x185001 : Int).toNat).drop (x10 : Int).toNat)).bind fun t190 => (if x8.length < 2513169434916 then (hunk_Diff.l0 k x0 x1 (x8 ++ [(⟨x9, t186, t190⟩ : S40)]) (wrap64 (x185000 + 1)) (wrap64 (x185001 + 1)) x29 x30 (wrap64 (x31 + 1))) else (none))) else (none)) else (none)) else (none))) else (none)) else (none)) else (none)) else (hunk_Diff.l0 k x0 x1 x8 (wrap64 (x185000 + 1)) (wrap64 (x185001 + 1)) x29 x30 (wrap64 (x31 + 1)))
end
def hunk_Diff.f (k : Nat) (l0 : List ByteArray) (l1 : List ByteArray) : Option ((List (S40)) × Int) := (lcs_Best.f k l0 l1).bind fun bt176 => (if bt176.2 = 0 then (if bt176.1.length < 8796093022208 then ((some (bt176.1 ++ [(⟨(l0.length : Int), (l1.length : Int)⟩ : S45)] : List (S45))).bind fun y180 => (hunk_Diff.l0 k l0 l1 ([] : List (S40)) 0 0 y180 (y180.length : Int) 0)) else (none)) else (some (([] : List (S40)), bt176.2)))
def hunk_Diff.T10 : Bool × List (List Nat × List Nat) := (true, [([], []), ([], []), ([], []), ([], []), ([], []), ([4], [4]), ([2, 3, 5], [2, 3, 5]), ([6], [6]), ([], []), ([], []), ([], []), ([10], [10]), ([8, 9, 11], [8, 9, 11]), ([12, 7], [12]), ([1, 7, 13], [1, 7, 13]), ([14], [14]), ([0, 15, 13], [0, 15]), ([16, 16, 0, 1, 2, 3, 4, 5, 6, 7, 8, 9, 10, 11, 12, 13, 14, 15, 16], [0, 16])])
def hunk_Diff.B10 : List Nat := [0, 0, 0, 0, 0, 16, 60, 124, 0, 0, 0, 1024, 3840, 8188, 16382, 32766, 65535, 131071]
theorem hunk_Diff.tab10 : rtab .any (opsOf Try.f7 10) = hunk_Diff.T10 := by kernel_rfl
theorem hunk_Diff.bits10 : waitsOk hunk_Diff.T10.2 hunk_Diff.B10 = true := by kernel_rfl
def hunk_Diff.T11 : Bool × List (List Nat × List Nat) := (true, [([], []), ([0], [0]), ([1], [1]), ([], []), ([3], [3]), ([4], [4]), ([2, 0, 1, 2], [2]), ([5, 6, 0, 1, 2, 3, 4, 5, 6], [5])])
def hunk_Diff.B11 : List Nat := [0, 1, 3, 0, 8, 24, 7, 127]
theorem hunk_Diff.tab11 : rtab .any (opsOf Try.f7 11) = hunk_Diff.T11 := by kernel_rfl
theorem hunk_Diff.bits11 : waitsOk hunk_Diff.T11.2 hunk_Diff.B11 = true := by kernel_rfl
abbrev hunk_Diff.Bz0 : Array Bool := #[false, false, false, false, false, false, false, false]
abbrev hunk_Diff.Bz1 : Array Bool := #[true, false, false, false, false, false, false, false]
abbrev hunk_Diff.Bz2 : Array Bool := #[true, false, false, true, false, false, false, false]
abbrev hunk_Diff.Bz3 : Array Bool := #[true, true, false, true, false, false, false, false]
abbrev hunk_Diff.Bz4 : Array Bool := #[true, true, true, true, false, false, false, false]
abbrev hunk_Diff.Bz5 : Array Bool := #[true, true, true, true, false, false, true, false]
abbrev hunk_Diff.Bz6 : Array Bool := #[true, true, true, true, true, false, true, false]
abbrev hunk_Diff.Bz7 : Array Bool := #[true, true, true, true, true, true, true, false]
abbrev hunk_Diff.Bz8 : Array Bool := #[true, true, true, true, true, true, true, true]
open hunk_Diff in
set_option maxHeartbeats 8000000 in
set_option maxRecDepth 100000 in
theorem hunk_Diff.calls (k : Nat) (A0 : Option Addr) (c0 : Nat) (l0 : List ByteArray) (A1 : Option Addr) (c1 : Nat) (l1 : List ByteArray) (r1 : List (S40)) (r2 : Int) (w : World) (hr0 : Kd.C Kd.string w A0 l0.length l0) (hc0 : l0.length ≤ c0) (hr1 : Kd.C Kd.string w A1 l1.length l1) (hc1 : l1.length ≤ c1) (h : hunk_Diff.f k l0 l1 = some (r1, r2)) :
  Calls Try.prog 7 #[.slice A0 l0.length c0, .slice A1 l1.length c1] w fun e w' => ∃ v0_ : Value, e = .returned (.tuple #[v0_, .int .i64 r2]) ∧ Kd.S k40 40 w' w.heap.size (fun _ => True) v0_ r1 ∧ Below w.heap.size w w' := by
 have hu45 := Try.underlying45
 have hu40 := Try.underlying40
 have HR0 := Aside0.mk hr0
 have HC0 := Aside0.mk hc0
 clear hr0 hc0
 have HR1 := Aside0.mk hr1
 have HC1 := Aside0.mk hc1
 clear hr1 hc1
 have HB := Aside0.mk (Below.refl w.heap.size w)
 have H : ((lcs_Best.f k l0 l1).bind fun bt176 => (if bt176.2 = 0 then (if bt176.1.length < 8796093022208 then ((some (bt176.1 ++ [(⟨(l0.length : Int), (l1.length : Int)⟩ : S45)] : List (S45))).bind fun y180 => (hunk_Diff.l0 k l0 l1 ([] : List (S40)) 0 0 y180 (y180.length : Int) 0)) else (none)) else (some (([] : List (S40)), bt176.2)))) = some (r1, r2) := h
 clear h
 replace H := Option.bind_eq_some_iff.mp H
 obtain ⟨⟨t176, t177⟩, A30, H⟩ := H
 replace H : (if t177 = 0 then (if t176.length < 8796093022208 then ((some (t176 ++ [(⟨(l0.length : Int), (l1.length : Int)⟩ : S45)] : List (S45))).bind fun y180 => (hunk_Diff.l0 k l0 l1 ([] : List (S40)) 0 0 y180 (y180.length : Int) 0)) else (none)) else (some (([] : List (S40)), t177))) = some (r1, r2) := H
 have A3 := Aside0.mk A30
 clear A30
 by_cases c4 : t177 = 0
 ·rw [if_pos c4] at H
  have c4b0 : (t177 == 0) = true := beq_iff_eq.mpr c4
  have c4b1 : (t177 != 0) = false := bne_eq_false_iff_eq.mpr c4
  clear c4
  by_cases c5 : t176.length < 8796093022208
  ·rw [if_pos c5] at H
   have LMc5 := Aside0.mk c5
   clear c5
   obtain ⟨y180, hy180⟩ : ∃ y_ : List (S45), y_ = (t176 ++ [(⟨(l0.length : Int), (l1.length : Int)⟩ : S45)]) := ⟨_, rfl⟩
   replace H : (hunk_Diff.l0 k l0 l1 ([] : List (S40)) 0 0 y180 (y180.length : Int) 0) = some (r1, r2) := by first | (rw [hy180]; with_reducible exact H) | (have H2_ := (Option.bind_some _ _).symm.trans H; rw [hy180]; with_reducible exact H2_) | (have H2_ := (Option.bind_some _ _).symm.trans H; with_reducible exact H2_) | with_reducible exact H | (rw [hy180]; exact H) | exact H
   have Ny180 := Aside0.mk hy180
   clear hy180
   have H' := Aside0.mk H
   clear H
   go_enter Try.func7, Try.ntmps7
   go_wp2_with (first | ((with_reducible refine gate_callee (f := 16) rfl ?_); refine goesL_ (some 16) rfl rfl Try.func16 (by kernel_rfl) rfl #[.slice A0 l0.length c0, .slice A1 l1.length c1] rfl (by (try simp only [List.map_toArray, List.map_cons, List.map_nil]); first | done | rfl | (simp only [List.length_drop, List.length_take]; rfl)) ?_; (with_reducible refine (lcs_Best.calls k _ _ l0 _ _ l1 t176 t177 _ ?side1 ?side2 ?side3 ?side4 A3.out).mono ?_); (case side1 => repeat (first | exact HR0.out | (with_reducible refine Kd.C_alloc ?_ _) | (with_reducible refine Kd.C_drewN ?_ _) | (with_reducible refine Kd.C_drew ?_))); (case side2 => exact HC0.out); (case side3 => repeat (first | exact HR1.out | (with_reducible refine Kd.C_alloc ?_ _) | (with_reducible refine Kd.C_drewN ?_ _) | (with_reducible refine Kd.C_drew ?_))); (case side4 => exact HC1.out); rintro e w6 ⟨v178, rfl, ho0, hb⟩; refine ⟨_, rfl, ?_⟩; have n0_ := Aside0.mk (Kd.R_lower ho0 (below_size (by repeat (first | (with_reducible first | exact HB.out | apply below_alloc | apply pw_below_drewN | apply below_drew1) | exact HB.out)))); have n1_ := Aside0.mk (below_step (by repeat (first | (with_reducible first | exact HB.out | apply below_alloc | apply pw_below_drewN | apply below_drew1) | exact HB.out)) hb); clear HB; have HO179 := n0_; have HB := n1_; clear n0_ n1_; (try clear hb); (try clear hb2); (try clear hk); (try clear hi); (try clear ho0)) | ((with_reducible refine gate_builtin (b := .append) (xs := #[.tmp 22, .tmp 28]) rfl ?_); at_builtin; refine Kd.R_append k45 (w0 := w) w.heap.size rfl (.tmp 22) (.tmp 28) 41 45 (.agg #[(.int .i64 0), (.int .i64 0)]) 16 rfl Try.underlying41 info45 rfl (by decide) (by omega) v178 t176 (⟨(l0.length : Int), (l1.length : Int)⟩ : S45) [.int .i64 (l0.length : Int), .int .i64 (l1.length : Int)] (fun _ => True) (fun _ => False) rfl rfl ?aP (fun _ hk => hk.elim) ?aF ?aO ?aB ?aS ?aL ?_; (case aP => exact k45_mkM _ _ _ (⟨(l0.length : Int), (l1.length : Int)⟩ : S45)); (case aB => exact (by repeat (first | (with_reducible first | exact HB.out | apply below_alloc | apply pw_below_drewN | apply below_drew1) | exact HB.out))); (case aF => exact (fun _ _ => trivial)); (case aO => exact (by (with_reducible repeat (first | apply Kd.R_alloc | apply Kd.R_drewN | apply Kd.R_drew)); exact HO179.out)); (case aS => exact (below_size (by repeat (first | (with_reducible first | exact HB.out | apply below_alloc | apply pw_below_drewN | apply below_drew1) | exact HB.out)))); (case aL => have := LMc5.out; omega); intro v181 w7 ho hb hg hat; rw [← Ny180.out] at ho; have n0_ := Aside0.mk (hb); have n1_ := Aside0.mk (ho); clear HB; clear HO179; have HB := n0_; have HO182 := n1_; clear n0_ n1_; clear ho hb hg hat; obtain ⟨Ao8, co8, eo8⟩ := Kd.R_slice HO182.out; subst eo8))
   go_loopg [8, 9, 10, 31] k (fun kq v8 v9 v10 v31 w' => ∃ (x8_1 : List (S40)) (x9_1 : Int) (x10_1 : Int) (x31_1 : Int), v9 = .int .i64 x9_1 ∧ v10 = .int .i64 x10_1 ∧ v31 = .int .i64 x31_1 ∧ Aside0 (hunk_Diff.l0 kq l0 l1 x8_1 x9_1 x10_1 y180 (y180.length : Int) x31_1 = some (r1, r2)) ∧ Aside0 (kq ≤ k) ∧ Aside0 (Kd.S k40 40 w' w.heap.size (fun _ => True) v8 x8_1) ∧ Aside0 (Kd.R k45 45 w' w.heap.size (fun _ => True) (.slice Ao8 y180.length co8) y180) ∧ Aside0 (Below w.heap.size w w'))
   case atStart => exact ⟨(([] : List (S40))), (0), (0), (0), (by first | rfl | (simp; done) | (simp [*]; done)), (by first | rfl | (simp; done) | (simp [*]; done)), (by first | rfl | (simp; done) | (simp [*]; done)), H', ⟨Nat.le_refl _⟩, ⟨by first | exact Kd.S_nil _ _ _ _ _ | exact Kd.N_nil _ _ _ _ _ | exact Kd.V_nil _ _ _ _ _ | exact Kd.Q_nil _ _ _ _ _ | exact Kd.R_nil _ _ _ _ _⟩, ⟨by (with_reducible repeat (first | apply Kd.R_alloc | apply Kd.R_drewN | apply Kd.R_drew)); exact HO182.out⟩, ⟨by repeat (first | (with_reducible first | exact HB.out | apply below_alloc | apply pw_below_drewN | apply below_drew1) | exact HB.out)⟩⟩
   case round =>
    clear H'
    try clear c1
    try clear p2
    try clear c4
    try clear c4b0
    try clear c4b1
    try clear c5
    try clear c7
    obtain ⟨x8_1, x9_1, x10_1, x31_1, rfl, rfl, rfl, HA, HK1, HO_8, HO_29, HB⟩ := hrel
    cases gk with
    | zero => exact absurd HA.out (by simp [hunk_Diff.l0])
    | succ k1 =>
     have H := HA.out
     clear HA
     simp only [hunk_Diff.l0] at H
     by_cases c9 : x31_1 < (y180.length : Int)
     ·rw [if_pos c9] at H
      have c9b0 : decide (x31_1 < (y180.length : Int)) = true := decide_eq_true c9
      clear c9
      by_cases c10 : 0 ≤ x31_1
      ·rw [if_pos c10] at H
       have c10b0 : decide (0 ≤ x31_1) = true := decide_eq_true c10
       clear c10
       by_cases c11 : x31_1 < (y180.length : Int)
       ·rw [if_pos c11] at H
        have c11b0 : decide (x31_1 < (y180.length : Int)) = true := decide_eq_true c11
        clear c11
        have HC12 := Aside0.mk H
        clear H
        have p183 : 0 ≤ (x31_1 : Int) := of_decide_eq_true (by first | (with_reducible assumption) | assumption)
        have q183 : x31_1 < (y180.length : Int) := of_decide_eq_true (by first | (with_reducible assumption) | assumption)
        obtain ⟨ad183, e183, hx183_0, hx183_1⟩ := at_T45 (Kd.R_reads' HO_29.out).2.2 x31_1 p183 q183
        cases e183
        replace p183 := eq_true p183
        replace q183 := eq_true q183
        go_upto_region 9 with (first | ((with_reducible refine gate_dst (N := 12) rfl ?_); refine box_event ?hg (N := 12) ?hd (cs := #[.int .i64 0, .int .i64 0]) (t := 45) ?hr ?_; (case hd => rfl); (case hg => rfl); (case hr => first | (go_simp; done) | (go_simp; rfl)); intro gb184 hg w13 hbox hb; have n0_ := Aside0.mk (Kd.S_below (by (with_reducible repeat (first | apply Kd.S_alloc | apply Kd.S_drewN | apply Kd.S_drew)); exact HO_8.out) hb); have n1_ := Aside0.mk (Kd.R_below (Kd.R_elderB (by (with_reducible repeat (first | apply Kd.R_alloc | apply Kd.R_drewN | apply Kd.R_drew)); exact HO_29.out) gb184 (Nat.le_of_eq hg.symm)) hb); have n2_ := Aside0.mk (below_step (by repeat (first | (with_reducible first | exact HB.out | apply below_alloc | apply pw_below_drewN | apply below_drew1) | exact HB.out)) hb); have n3_ := Aside0.mk (hbox); have n4_ := Aside0.mk ((by rw [hg]; exact (below_size (by repeat (first | (with_reducible first | exact HB.out | apply below_alloc | apply pw_below_drewN | apply below_drew1) | exact HB.out))) : w.heap.size ≤ gb184)); have n5_ := Aside0.mk ((by rw [hg]; exact (below_size (by repeat (first | (with_reducible first | exact HB.out | apply below_alloc | apply pw_below_drewN | apply below_drew1) | exact HB.out))) : w.heap.size ≤ gb184)); clear HO_8; clear HO_29; clear HB; have HO_8 := n0_; have HO_29 := n1_; have HB := n2_; have BK184 := n3_; have GW184 := n4_; have GE184 := n5_; clear n0_ n1_ n2_ n3_ n4_ n5_; clear hb hbox hg; have hcz14_0 : w13.cell? ⟨gb184, 0, none⟩ = some (.int .i64 0) := (blk_cell BK184.out 0).trans rfl; have hcz14_1 : w13.cell? ⟨gb184, 1, none⟩ = some (.int .i64 0) := (blk_cell BK184.out 1).trans rfl; have hfz14_0 := blk_frozen BK184.out 0; have hfz14_1 := blk_frozen BK184.out 1))
        (try simp only [Act.put, List.setIfInBounds_toArray, List.set_cons_zero, List.set_cons_succ])
        go_cut [44] (fun v44 wc => ∃ (kq : Nat) (x44_11 : Bool), v44 = .bool x44_11 ∧ Aside0 (hunk_Diff.j1 kq l0 l1 x8_1 x9_1 x10_1 y180 (y180.length : Int) x31_1 x44_11 ((rd_T45 y180 x31_1).f0) ((rd_T45 y180 x31_1).f1) = some (r1, r2)) ∧ Aside0 (kq ≤ k1) ∧ Aside0 (Kd.S k40 40 wc w.heap.size (fun _ => True) u8 x8_1) ∧ Aside0 (Kd.R k45 45 wc w.heap.size (fun k_ => k_ ≠ gb184) (.slice (some ad183) y180.length co8) y180) ∧ Aside0 (wc.heap[gb184]? = some (.cells #[.int .i64 ((rd_T45 y180 x31_1).f0), .int .i64 ((rd_T45 y180 x31_1).f1)] 45 (0, 0))) ∧ Aside0 (Below w.heap.size w wc))
        case first =>
         have H := HC12.out
         clear HC12
         by_cases c15 : ((rd_T45 y180 x31_1).f0) > x9_1
         ·rw [if_pos c15] at H
          have c15b0 : decide (x9_1 < ((rd_T45 y180 x31_1).f0)) = true := decide_eq_true c15
          clear c15
          (first | rw [c15b0] | (simp only [i64_w, i32_w]; rw [c15b0]) | skip)
          have H' := Aside0.mk H
          clear H
          have hcz16_0 : w13.cell? ⟨gb184, 0, none⟩ = some (.int .i64 0) := (blk_cell BK184.out 0).trans rfl
          have hcz16_1 : w13.cell? ⟨gb184, 1, none⟩ = some (.int .i64 0) := (blk_cell BK184.out 1).trans rfl
          have hfz16_0 := blk_frozen BK184.out 0
          have hfz16_1 := blk_frozen BK184.out 1
          go_wp2
          go_meet
          case rel => exact ⟨_, (true), (by first | rfl | (simp; done) | (simp [*]; done)), H', ⟨by have := HK1.out; first | omega | exact Nat.le_refl _⟩, ⟨by (with_reducible repeat (first | apply Kd.S_alloc | apply Kd.S_drewN | apply Kd.S_drew)); exact Kd.S_mono (Kd.S_far (p := ⟨gb184, 1, none⟩) (Kd.S_far (p := ⟨gb184, 0, none⟩) (Kd.S_types HO_8.out BK184.out (by decide)) (fun _ hk => hk.2) (.int .i64 ((rd_T45 y180 x31_1).f0))) (fun _ hk => hk.2) (.int .i64 ((rd_T45 y180 x31_1).f1))) (fun _ hk => trivial)⟩, ⟨by (with_reducible repeat (first | apply Kd.R_alloc | apply Kd.R_drewN | apply Kd.R_drew)); exact Kd.R_mono (Kd.R_far (p := ⟨gb184, 1, none⟩) (Kd.R_far (p := ⟨gb184, 0, none⟩) (Kd.R_mono HO_29.out (fun k_ hk => (⟨hk, hk.2⟩ : _ ∧ k_ ≠ gb184))) (fun _ hk => hk.2) (.int .i64 ((rd_T45 y180 x31_1).f0))) (fun _ hk => hk.2) (.int .i64 ((rd_T45 y180 x31_1).f1))) (fun _ hk => hk.1.2)⟩, ⟨by (with_reducible repeat (first | refine blk_drewN ?_ _ | refine blk_drew ?_ | refine blk_alloc ?_ _)); refine blk_put (cs := #[.int .i64 ((rd_T45 y180 x31_1).f0), .int .i64 0]) ?_ 1 _ rfl; (with_reducible repeat (first | refine blk_drewN ?_ _ | refine blk_drew ?_ | refine blk_alloc ?_ _)); refine blk_put (cs := #[.int .i64 0, .int .i64 0]) ?_ 0 _ rfl; (with_reducible repeat (first | refine blk_drewN ?_ _ | refine blk_drew ?_ | refine blk_alloc ?_ _)); exact BK184.out⟩, ⟨by repeat (first | (with_reducible first | exact HB.out | apply below_alloc | apply pw_below_drewN | apply below_drew1 | refine below_set ?_ GE184.out) | exact HB.out)⟩⟩
         ·rw [if_neg c15] at H
          have c15b0 : decide (x9_1 < ((rd_T45 y180 x31_1).f0)) = false := decide_eq_false c15
          clear c15
          (first | rw [c15b0] | (simp only [i64_w, i32_w]; rw [c15b0]) | skip)
          have H' := Aside0.mk H
          clear H
          have hcz17_0 : w13.cell? ⟨gb184, 0, none⟩ = some (.int .i64 0) := (blk_cell BK184.out 0).trans rfl
          have hcz17_1 : w13.cell? ⟨gb184, 1, none⟩ = some (.int .i64 0) := (blk_cell BK184.out 1).trans rfl
          have hfz17_0 := blk_frozen BK184.out 0
          have hfz17_1 := blk_frozen BK184.out 1
          go_wp2
          go_meet
          case rel => exact ⟨_, (decide (((rd_T45 y180 x31_1).f1) > x10_1)), (by first | rfl | (simp; done) | (simp [*]; done)), H', ⟨by have := HK1.out; first | omega | exact Nat.le_refl _⟩, ⟨by (with_reducible repeat (first | apply Kd.S_alloc | apply Kd.S_drewN | apply Kd.S_drew)); exact Kd.S_mono (Kd.S_far (p := ⟨gb184, 1, none⟩) (Kd.S_far (p := ⟨gb184, 0, none⟩) (Kd.S_types HO_8.out BK184.out (by decide)) (fun _ hk => hk.2) (.int .i64 ((rd_T45 y180 x31_1).f0))) (fun _ hk => hk.2) (.int .i64 ((rd_T45 y180 x31_1).f1))) (fun _ hk => trivial)⟩, ⟨by (with_reducible repeat (first | apply Kd.R_alloc | apply Kd.R_drewN | apply Kd.R_drew)); exact Kd.R_mono (Kd.R_far (p := ⟨gb184, 1, none⟩) (Kd.R_far (p := ⟨gb184, 0, none⟩) (Kd.R_mono HO_29.out (fun k_ hk => (⟨hk, hk.2⟩ : _ ∧ k_ ≠ gb184))) (fun _ hk => hk.2) (.int .i64 ((rd_T45 y180 x31_1).f0))) (fun _ hk => hk.2) (.int .i64 ((rd_T45 y180 x31_1).f1))) (fun _ hk => hk.1.2)⟩, ⟨by (with_reducible repeat (first | refine blk_drewN ?_ _ | refine blk_drew ?_ | refine blk_alloc ?_ _)); refine blk_put (cs := #[.int .i64 ((rd_T45 y180 x31_1).f0), .int .i64 0]) ?_ 1 _ rfl; (with_reducible repeat (first | refine blk_drewN ?_ _ | refine blk_drew ?_ | refine blk_alloc ?_ _)); refine blk_put (cs := #[.int .i64 0, .int .i64 0]) ?_ 0 _ rfl; (with_reducible repeat (first | refine blk_drewN ?_ _ | refine blk_drew ?_ | refine blk_alloc ?_ _)); exact BK184.out⟩, ⟨by repeat (first | (with_reducible first | exact HB.out | apply below_alloc | apply pw_below_drewN | apply below_drew1 | refine below_set ?_ GE184.out) | exact HB.out)⟩⟩
        case rest =>
         clear HC12
         try clear c1
         try clear p1
         try clear q1
         try clear hx1
         try clear p2
         try clear c4
         try clear c4b0
         try clear c4b1
         try clear c5
         try clear c7
         try clear c9
         try clear c9b0
         try clear c10
         try clear c10b0
         try clear c11
         try clear c11b0
         try clear c15
         try clear c15b0
         try clear c16
         try clear hcz14_0
         try clear hcz14_1
         try clear hcz16_0
         try clear hcz16_1
         try clear hcz17_0
         try clear hcz17_1
         try clear hfz14_0
         try clear hfz14_1
         try clear hfz16_0
         try clear hfz16_1
         try clear hfz17_0
         try clear hfz17_1
         try clear hx183_0
         try clear hx183_1
         try clear p183
         try clear p2
         try clear q183
         obtain ⟨kq, x44_11, rfl, HA, HJ11, HO_8, HO_29, BK184, HB⟩ := hcut
         cases kq with
         | zero => exact absurd HA.out (by simp [hunk_Diff.j1])
         | succ kj11 =>
          have H := HA.out
          clear HA
          simp only [hunk_Diff.j1] at H
          by_cases c18 : x44_11 = true
          ·subst c18
           have H1 : (if 0 ≤ x9_1 then (if x9_1 ≤ ((rd_T45 y180 x31_1).f0) then (if ((rd_T45 y180 x31_1).f0) ≤ (l0.length : Int) then ((slices_Clone.f ((l0.take (((rd_T45 y180 x31_1).f0) : Int).toNat).drop (x9_1 : Int).toNat)).bind fun t186 => (if 0 ≤ x10_1 then (if x10_1 ≤ ((rd_T45 y180 x31_1).f1) then (if ((rd_T45 y180 x31_1).f1) ≤ (l1.length : Int) then ((slices_Clone.f ((l1.take (((rd_T45 y180 x31_1).f1) : Int).toNat).drop (x10_1 : Int).toNat)).bind fun t190 => (if x8_1.length < 2513169434916 then (hunk_Diff.l0 kj11 l0 l1 (x8_1 ++ [(⟨x9_1, t186, t190⟩ : S40)]) (wrap64 (((rd_T45 y180 x31_1).f0) + 1)) (wrap64 (((rd_T45 y180 x31_1).f1) + 1)) y180 (y180.length : Int) (wrap64 (x31_1 + 1))) else (none))) else (none)) else (none)) else (none))) else (none)) else (none)) else (none)) = some (r1, r2) := by rw [if_pos rfl] at H; exact H
           clear H
           have H := H1
           clear H1
           by_cases c19 : 0 ≤ x9_1
           ·rw [if_pos c19] at H
            have c19b0 := eq_true c19
            have c19b1 : decide (0 ≤ x9_1) = true := decide_eq_true c19
            clear c19
            by_cases c20 : x9_1 ≤ ((rd_T45 y180 x31_1).f0)
            ·rw [if_pos c20] at H
             have c20b0 := eq_true c20
             have c20b1 : decide (x9_1 ≤ ((rd_T45 y180 x31_1).f0)) = true := decide_eq_true c20
             clear c20
             by_cases c21 : ((rd_T45 y180 x31_1).f0) ≤ (l0.length : Int)
             ·rw [if_pos c21] at H
              have c21b0 := eq_true c21
              have c21b1 : decide (((rd_T45 y180 x31_1).f0) ≤ (l0.length : Int)) = true := decide_eq_true c21
              (try have c21m := Aside0.mk (Nat.min_eq_left (Int.toNat_le.2 c21)))
              clear c21
              replace H := Option.bind_eq_some_iff.mp H
              obtain ⟨t186, A220, H⟩ := H
              replace H : (if 0 ≤ x10_1 then (if x10_1 ≤ ((rd_T45 y180 x31_1).f1) then (if ((rd_T45 y180 x31_1).f1) ≤ (l1.length : Int) then ((slices_Clone.f ((l1.take (((rd_T45 y180 x31_1).f1) : Int).toNat).drop (x10_1 : Int).toNat)).bind fun t190 => (if x8_1.length < 2513169434916 then (hunk_Diff.l0 kj11 l0 l1 (x8_1 ++ [(⟨x9_1, t186, t190⟩ : S40)]) (wrap64 (((rd_T45 y180 x31_1).f0) + 1)) (wrap64 (((rd_T45 y180 x31_1).f1) + 1)) y180 (y180.length : Int) (wrap64 (x31_1 + 1))) else (none))) else (none)) else (none)) else (none)) = some (r1, r2) := H
              have A22 := Aside0.mk A220
              clear A220
              by_cases c23 : 0 ≤ x10_1
              ·rw [if_pos c23] at H
               have c23b0 := eq_true c23
               have c23b1 : decide (0 ≤ x10_1) = true := decide_eq_true c23
               clear c23
               by_cases c24 : x10_1 ≤ ((rd_T45 y180 x31_1).f1)
               ·rw [if_pos c24] at H
                have c24b0 := eq_true c24
                have c24b1 : decide (x10_1 ≤ ((rd_T45 y180 x31_1).f1)) = true := decide_eq_true c24
                clear c24
                by_cases c25 : ((rd_T45 y180 x31_1).f1) ≤ (l1.length : Int)
                ·rw [if_pos c25] at H
                 have c25b0 := eq_true c25
                 have c25b1 : decide (((rd_T45 y180 x31_1).f1) ≤ (l1.length : Int)) = true := decide_eq_true c25
                 (try have c25m := Aside0.mk (Nat.min_eq_left (Int.toNat_le.2 c25)))
                 clear c25
                 replace H := Option.bind_eq_some_iff.mp H
                 obtain ⟨t190, A260, H⟩ := H
                 replace H : (if x8_1.length < 2513169434916 then (hunk_Diff.l0 kj11 l0 l1 (x8_1 ++ [(⟨x9_1, t186, t190⟩ : S40)]) (wrap64 (((rd_T45 y180 x31_1).f0) + 1)) (wrap64 (((rd_T45 y180 x31_1).f1) + 1)) y180 (y180.length : Int) (wrap64 (x31_1 + 1))) else (none)) = some (r1, r2) := H
                 have A26 := Aside0.mk A260
                 (try have sameA26 := (Option.some.inj (A22.out.symm.trans A26.out) : t186 = t190))
                 clear A260
                 by_cases c27 : x8_1.length < 2513169434916
                 ·rw [if_pos c27] at H
                  have LMc27 := Aside0.mk c27
                  clear c27
                  obtain ⟨y193, hy193⟩ : ∃ y_ : List (S40), y_ = (x8_1 ++ [(⟨x9_1, t186, t190⟩ : S40)]) := ⟨_, rfl⟩
                  replace H : (hunk_Diff.l0 kj11 l0 l1 y193 (wrap64 (((rd_T45 y180 x31_1).f0) + 1)) (wrap64 (((rd_T45 y180 x31_1).f1) + 1)) y180 (y180.length : Int) (wrap64 (x31_1 + 1))) = some (r1, r2) := by first | (rw [hy193]; with_reducible exact H) | (have H2_ := (Option.bind_some _ _).symm.trans H; rw [hy193]; with_reducible exact H2_) | (have H2_ := (Option.bind_some _ _).symm.trans H; with_reducible exact H2_) | with_reducible exact H | (rw [hy193]; exact H) | exact H
                  have Ny193 := Aside0.mk hy193
                  clear hy193
                  have H' := Aside0.mk H
                  clear H
                  try go_wp2
                  have n0_ := Aside0.mk (Kd.S_drew HO_8.out)
                  have n1_ := Aside0.mk (Kd.R_drew HO_29.out)
                  have n2_ := Aside0.mk (blk_drew BK184.out)
                  have n3_ := Aside0.mk (below_drew1 HB.out)
                  clear HO_8
                  clear HO_29
                  clear BK184
                  clear HB
                  have HO_8 := n0_
                  have HO_29 := n1_
                  have BK184 := n2_
                  have HB := n3_
                  clear n0_ n1_ n2_ n3_
                  obtain ⟨i029, hi029, _, hsz29, _⟩ := info_parts info9
                  obtain ⟨A29, hcut29, hA29, hC29⟩ := print_mid_of (P := Try.prog) Value.string (⟨#[]⟩ : ByteArray) 22 9 .i64 .i64 Try.underlying22 hi029 hsz29 A0 c0 l0 x9_1 ((rd_T45 y180 x31_1).f0) (of_decide_eq_true (by first | (with_reducible assumption) | assumption)) (by first | omega | exact of_decide_eq_true (by first | (with_reducible assumption) | assumption)) (of_decide_eq_true (by first | (with_reducible assumption) | assumption)) HC0.out
                  have HR185 := Aside0.mk (Kd.C_of_reads (h1 := fun _ => rfl) (hA29 _ (Kd.reads_of_C HR0.out)))
                  have HC185 := Aside0.mk hC29
                  clear hA29 hC29 hi029 hsz29
                  obtain ⟨i030, hi030, _, hsz30, _⟩ := info_parts info9
                  obtain ⟨A30, hcut30, hA30, hC30⟩ := print_mid_of (P := Try.prog) Value.string (⟨#[]⟩ : ByteArray) 22 9 .i64 .i64 Try.underlying22 hi030 hsz30 A1 c1 l1 x10_1 ((rd_T45 y180 x31_1).f1) (of_decide_eq_true (by first | (with_reducible assumption) | assumption)) (by first | omega | exact of_decide_eq_true (by first | (with_reducible assumption) | assumption)) (of_decide_eq_true (by first | (with_reducible assumption) | assumption)) HC1.out
                  have HR189 := Aside0.mk (Kd.C_of_reads (h1 := fun _ => rfl) (hA30 _ (Kd.reads_of_C HR1.out)))
                  have HC189 := Aside0.mk hC30
                  clear hA30 hC30 hi030 hsz30
                  refine start_ (n := 18) (S := fun w' => w'.cell? ⟨gb184, 0, none⟩ = some (.int .i64 ((rd_T45 y180 x31_1).f0)) ∧ w'.cell? ⟨gb184, 1, none⟩ = some (.int .i64 ((rd_T45 y180 x31_1).f1))) (ds := []) #[false, false, false, false, false, false, false, false, false, false, false, false, false, false, false, false, false, false] (by kernel_rfl) rfl rfl ⟨(blk_cell BK184.out 0).trans rfl, (blk_cell BK184.out 1).trans rfl⟩ (fun hHeld => ?_); refine with_tabW hunk_Diff.tab10 hunk_Diff.bits10 (fun HT_ HW_ => ?_)
                  generalize wc.drew = w28 at HO_8 HO_29 BK184 HB HR185 HR189 hHeld ⊢
                  refine pu 0 45 #[true, false, false, false, false, false, false, false, false, false, false, false, false, false, false, false, false, false] rfl rfl (any_of HT_.out (by kernel_rfl)) ?_
                  refine pu 1 46 #[true, true, false, false, false, false, false, false, false, false, false, false, false, false, false, false, false, false] rfl rfl (any_of HT_.out (by kernel_rfl)) ?_
                  refine pu 2 47 #[true, true, true, false, false, false, false, false, false, false, false, false, false, false, false, false, false, false] rfl rfl (any_of HT_.out (by kernel_rfl)) ?_
                  refine pu 3 48 #[true, true, true, true, false, false, false, false, false, false, false, false, false, false, false, false, false, false] rfl rfl (any_of HT_.out (by kernel_rfl)) ?_
                  refine pu 4 49 #[true, true, true, true, true, false, false, false, false, false, false, false, false, false, false, false, false, false] rfl rfl (any_of HT_.out (by kernel_rfl)) ?_
                  refine pu 8 53 #[true, true, true, true, true, false, false, false, true, false, false, false, false, false, false, false, false, false] rfl rfl (any_of HT_.out (by kernel_rfl)) ?_
                  refine pu 9 54 #[true, true, true, true, true, false, false, false, true, true, false, false, false, false, false, false, false, false] rfl rfl (any_of HT_.out (by kernel_rfl)) ?_
                  refine pu 10 55 #[true, true, true, true, true, false, false, false, true, true, true, false, false, false, false, false, false, false] rfl rfl (any_of HT_.out (by kernel_rfl)) ?_
                  refine take_ (i := 5) (N := some 50) (v := ?_) (a' := ?_) #[true, true, true, true, true, true, false, false, true, true, true, false, false, false, false, false, false, false] rfl rfl (take_ofW HT_.out HW_.out (by kernel_rfl)) (fun _ _ _ h => h) (Or.inl ⟨by rfl, ?_⟩) hHeld ?_ ?_; rotate_left; (focus rintro w' ⟨s0, s1⟩; go_simp; with_reducible rfl); rotate_left; (focus go_simp; rfl)
                  refine pu 6 51 #[true, true, true, true, true, true, true, false, true, true, true, false, false, false, false, false, false, false] rfl rfl (any_of HT_.out (by kernel_rfl)) ?_
                  refine take_ (i := 11) (N := some 56) (v := ?_) (a' := ?_) #[true, true, true, true, true, true, true, false, true, true, true, true, false, false, false, false, false, false] rfl rfl (take_ofW HT_.out HW_.out (by kernel_rfl)) (fun _ _ _ h => h) (Or.inl ⟨by rfl, ?_⟩) hHeld ?_ ?_; rotate_left; (focus rintro w' ⟨s0, s1⟩; go_simp; with_reducible rfl); rotate_left; (focus go_simp; rfl)
                  refine pu 12 57 #[true, true, true, true, true, true, true, false, true, true, true, true, true, false, false, false, false, false] rfl rfl (any_of HT_.out (by kernel_rfl)) ?_
                  refine one_ (i := 7) (N := some 52) #[true, true, true, true, true, true, true, true, true, true, true, true, true, false, false, false, false, false] rfl rfl (one_of HT_.out (by kernel_rfl)) (by decide) (fun K hK => ?_)
                  refine goes_ Try.func17 (by kernel_rfl) rfl #[.slice A29 ((l0.take (((rd_T45 y180 x31_1).f0) : Int).toNat).drop (x9_1 : Int).toNat).length (c0 - x9_1.toNat)] (by rfl) rfl rfl (by (try simp only [List.map_toArray, List.map_cons, List.map_nil]); first | done | (rw [show ((l0.take (((rd_T45 y180 x31_1).f0) : Int).toNat).drop (x9_1 : Int).toNat).length = (((rd_T45 y180 x31_1).f0).toNat - x9_1.toNat) from (by rw [List.length_drop, List.length_take]; have h_ : (((rd_T45 y180 x31_1).f0) : Int) ≤ (l0.length : Int) := of_decide_eq_true (by first | (with_reducible assumption) | assumption); omega)] <;> rfl) | rfl | (simp only [List.length_drop, List.length_take]; rfl)) ?_
                  with_reducible refine (slices_Clone.calls _ _ ((l0.take (((rd_T45 y180 x31_1).f0) : Int).toNat).drop (x9_1 : Int).toNat) t186 _ ?side1 ?side2 A22.out).mono ?_
                  (case side1 => repeat (first | exact (Kd.C_below HR185.out HB.out) | (with_reducible refine Kd.C_alloc ?_ _) | (with_reducible refine Kd.C_drewN ?_ _) | (with_reducible refine Kd.C_drew ?_)))
                  (case side2 => exact HC185.out)
                  rintro e w31 ⟨v187, rfl, ho0, hb⟩
                  refine ⟨_, rfl, ?_⟩
                  have n0_ := Aside0.mk (Kd.S_elder' (by (with_reducible repeat (first | apply Kd.S_alloc | apply Kd.S_drewN | apply Kd.S_drew)); exact HO_8.out) (Kd.R_base ho0) hb)
                  have n1_ := Aside0.mk (Kd.R_below (by (with_reducible repeat (first | apply Kd.R_alloc | apply Kd.R_drewN | apply Kd.R_drew)); exact HO_29.out) hb)
                  have n2_ := Aside0.mk (Kd.R_lower ho0 (below_size (by repeat (first | (with_reducible first | exact HB.out | apply below_alloc | apply pw_below_drewN | apply below_drew1 | refine below_set ?_ GE184.out) | exact HB.out))))
                  have n3_ := Aside0.mk (blk_below (g := gb184) (o := .cells #[.int .i64 ((rd_T45 y180 x31_1).f0), .int .i64 ((rd_T45 y180 x31_1).f1)] 45 (0, 0)) (by (with_reducible repeat (first | refine blk_drewN ?_ _ | refine blk_drew ?_ | refine blk_alloc ?_ _)); exact BK184.out) hb)
                  have n4_ := Aside0.mk (below_step (by repeat (first | (with_reducible first | exact HB.out | apply below_alloc | apply pw_below_drewN | apply below_drew1 | refine below_set ?_ GE184.out) | exact HB.out)) hb)
                  clear HO_8
                  clear HO_29
                  clear BK184
                  clear HB
                  have HO_8 := n0_
                  have HO_29 := n1_
                  have HO188 := n2_
                  have BK184 := n3_
                  have HB := n4_
                  clear n0_ n1_ n2_ n3_ n4_
                  (try clear hb)
                  (try clear hb2)
                  (try clear hk)
                  (try clear hi)
                  (try clear ho0)
                  refine hK.out _ _ ⟨(blk_cell BK184.out 0).trans rfl, (blk_cell BK184.out 1).trans rfl⟩ (fun hHeld => ?_)
                  clear hK K
                  refine norm_ (a' := ?_) ?_ ?_
                  rotate_left
                  ·show Act.put _ (some 52) _ = _
                   simp only [Act.put, List.setIfInBounds_toArray, List.set_cons_zero, List.set_cons_succ, i64_w, i32_w]
                   rfl
                  refine one_ (i := 13) (N := some 58) #[true, true, true, true, true, true, true, true, true, true, true, true, true, true, false, false, false, false] rfl rfl (one_of HT_.out (by kernel_rfl)) (by decide) (fun K hK => ?_)
                  refine goes_ Try.func17 (by kernel_rfl) rfl #[.slice A30 ((l1.take (((rd_T45 y180 x31_1).f1) : Int).toNat).drop (x10_1 : Int).toNat).length (c1 - x10_1.toNat)] (by rfl) rfl rfl (by (try simp only [List.map_toArray, List.map_cons, List.map_nil]); first | done | (rw [show ((l1.take (((rd_T45 y180 x31_1).f1) : Int).toNat).drop (x10_1 : Int).toNat).length = (((rd_T45 y180 x31_1).f1).toNat - x10_1.toNat) from (by rw [List.length_drop, List.length_take]; have h_ : (((rd_T45 y180 x31_1).f1) : Int) ≤ (l1.length : Int) := of_decide_eq_true (by first | (with_reducible assumption) | assumption); omega)] <;> rfl) | rfl | (simp only [List.length_drop, List.length_take]; rfl)) ?_
                  with_reducible refine (slices_Clone.calls _ _ ((l1.take (((rd_T45 y180 x31_1).f1) : Int).toNat).drop (x10_1 : Int).toNat) t190 _ ?side1 ?side2 A26.out).mono ?_
                  (case side1 => repeat (first | exact (Kd.C_below HR189.out HB.out) | (with_reducible refine Kd.C_alloc ?_ _) | (with_reducible refine Kd.C_drewN ?_ _) | (with_reducible refine Kd.C_drew ?_)))
                  (case side2 => exact HC189.out)
                  rintro e w32 ⟨v191, rfl, ho0, hb⟩
                  refine ⟨_, rfl, ?_⟩
                  have n0_ := Aside0.mk (Kd.S_elder' (by (with_reducible repeat (first | apply Kd.S_alloc | apply Kd.S_drewN | apply Kd.S_drew)); exact HO_8.out) (Kd.R_base ho0) hb)
                  have n1_ := Aside0.mk (Kd.R_below (by (with_reducible repeat (first | apply Kd.R_alloc | apply Kd.R_drewN | apply Kd.R_drew)); exact HO_29.out) hb)
                  have n2_ := Aside0.mk (Kd.R_elder' (by (with_reducible repeat (first | apply Kd.R_alloc | apply Kd.R_drewN | apply Kd.R_drew)); exact HO188.out) (Kd.R_base ho0) hb)
                  have n3_ := Aside0.mk (Kd.R_lower (Kd.R_new' ho0 (Kd.R_lt (by (with_reducible repeat (first | apply Kd.R_alloc | apply Kd.R_drewN | apply Kd.R_drew)); exact HO188.out))) (below_size (by repeat (first | (with_reducible first | exact HB.out | apply below_alloc | apply pw_below_drewN | apply below_drew1 | refine below_set ?_ GE184.out) | exact HB.out))))
                  have n4_ := Aside0.mk (blk_below (g := gb184) (o := .cells #[.int .i64 ((rd_T45 y180 x31_1).f0), .int .i64 ((rd_T45 y180 x31_1).f1)] 45 (0, 0)) (by (with_reducible repeat (first | refine blk_drewN ?_ _ | refine blk_drew ?_ | refine blk_alloc ?_ _)); exact BK184.out) hb)
                  have n5_ := Aside0.mk (below_step (by repeat (first | (with_reducible first | exact HB.out | apply below_alloc | apply pw_below_drewN | apply below_drew1 | refine below_set ?_ GE184.out) | exact HB.out)) hb)
                  clear HO_8
                  clear HO_29
                  clear HO188
                  clear BK184
                  clear HB
                  have HO_8 := n0_
                  have HO_29 := n1_
                  have HO188 := n2_
                  have HO192 := n3_
                  have BK184 := n4_
                  have HB := n5_
                  clear n0_ n1_ n2_ n3_ n4_ n5_
                  (try clear hb)
                  (try clear hb2)
                  (try clear hk)
                  (try clear hi)
                  (try clear ho0)
                  obtain ⟨Ao33, co33, eo33⟩ := Kd.R_slice HO192.out
                  (first | subst eo33 | (injection eo33 with f1_ f2_ f3_; have f4_ := f1_.symm; have f5_ := f3_.symm; clear f1_ f2_ f3_; subst f4_; subst f5_))
                  obtain ⟨Ao34, co34, eo34⟩ := Kd.R_slice HO188.out
                  (first | subst eo34 | (injection eo34 with f1_ f2_ f3_; have f4_ := f1_.symm; have f5_ := f3_.symm; clear f1_ f2_ f3_; subst f4_; subst f5_))
                  refine hK.out _ _ ⟨(blk_cell BK184.out 0).trans rfl, (blk_cell BK184.out 1).trans rfl⟩ (fun hHeld => ?_)
                  clear hK K
                  refine norm_ (a' := ?_) ?_ ?_
                  rotate_left
                  ·show Act.put _ (some 58) _ = _
                   simp only [Act.put, List.setIfInBounds_toArray, List.set_cons_zero, List.set_cons_succ, i64_w, i32_w]
                   rfl
                  refine pu 14 59 #[true, true, true, true, true, true, true, true, true, true, true, true, true, true, true, false, false, false] rfl rfl (any_of HT_.out (by kernel_rfl)) ?_
                  refine one_ (i := 15) (N := some 60) #[true, true, true, true, true, true, true, true, true, true, true, true, true, true, true, true, false, false] rfl rfl (one_of HT_.out (by kernel_rfl)) (by decide) (fun K hK => ?_)
                  refine value_ (w1 := ?_) (v := ?_) (by rfl) rfl ?_ ?_
                  rotate_left 2
                  ·go_simp
                   constructor
                   ·rfl
                   ·rfl
                  refine hK.out _ _ ⟨(blk_cell (blk_alloc BK184.out _) 0).trans rfl, (blk_cell (blk_alloc BK184.out _) 1).trans rfl⟩ (fun hHeld => ?_)
                  clear hK K
                  refine norm_ (a' := ?_) ?_ ?_
                  rotate_left
                  ·show Act.put _ (some 60) _ = _
                   simp only [Act.put, List.setIfInBounds_toArray, List.set_cons_zero, List.set_cons_succ, i64_w, i32_w]
                   rfl
                  refine one_ (i := 16) (N := some 61) #[true, true, true, true, true, true, true, true, true, true, true, true, true, true, true, true, true, false] rfl rfl (one_of HT_.out (by kernel_rfl)) (by decide) (fun K hK => ?_)
                  refine Kd.S_append_step k40 (w0 := w) w.heap.size (by rfl) (.tmp 45) (.tmp 60) 23 40 (.agg #[(.int .i64 0), (.slice none 0 0), (.slice none 0 0)]) 56 rfl Try.underlying23 info40 rfl (by decide) (by omega) u8 x8_1 (⟨x9_1, t186, t190⟩ : S40) [.int .i64 x9_1, .slice Ao34 t186.length co34, .slice Ao33 t190.length co33] (fun _ => True) (fun k_ => some k_ = (.slice Ao34 t186.length co34 : Value).ownBlock ∨ some k_ = (.slice Ao33 t190.length co33 : Value).ownBlock) rfl rfl ?aP (fun k_ hk_ => hk_.elim (fun h_ => ((Kd.R_mono (ok' := fun k_ => ((fun _ => True)) k_ ∧ some k_ ≠ (u8 : Value).ownBlock) (Kd.R_apart' (HO188.out) (Kd.S_typed HO_8.out) (by decide)) (fun k_ hk => ⟨trivial, hk.2⟩))).1 k_ h_.symm) (fun h_ => ((Kd.R_mono (ok' := fun k_ => ((fun _ => True)) k_ ∧ some k_ ≠ (u8 : Value).ownBlock) (Kd.R_apart' (HO192.out) (Kd.S_typed HO_8.out) (by decide)) (fun k_ hk => ⟨trivial, hk.2⟩))).1 k_ h_.symm)) ?aF ?aO ?aB ?aS ?aL ?_
                  (case aP => exact k40_mkM _ _ _ (⟨x9_1, t186, t190⟩ : S40) (Kd.R_mono (Kd.R_tight rfl (Kd.R_mono (ok' := fun k_ => ((fun _ => True)) k_ ∧ some k_ ≠ (u8 : Value).ownBlock) (Kd.R_apart' (HO188.out) (Kd.S_typed HO_8.out) (by decide)) (fun k_ hk => ⟨trivial, hk.2⟩))) (fun _ h_ => Or.inl h_)) (Kd.R_mono (Kd.R_tight rfl (Kd.R_mono (ok' := fun k_ => ((fun _ => True)) k_ ∧ some k_ ≠ (u8 : Value).ownBlock) (Kd.R_apart' (HO192.out) (Kd.S_typed HO_8.out) (by decide)) (fun k_ hk => ⟨trivial, hk.2⟩))) (fun _ h_ => Or.inr (h_))))
                  (case aB => exact (by repeat (first | (with_reducible first | exact HB.out | apply below_alloc | apply pw_below_drewN | apply below_drew1 | refine below_set ?_ GE184.out) | exact HB.out)))
                  (case aF => exact (fun _ _ => trivial))
                  (case aO => exact (by (with_reducible repeat (first | apply Kd.S_alloc | apply Kd.S_drewN | apply Kd.S_drew)); exact Kd.S_mono HO_8.out (fun k_ hk => ⟨trivial, fun e_ => e_.elim (fun h_ => hk.1.2 h_) (fun h_ => hk.2 h_)⟩)))
                  (case aS => exact (below_size (by repeat (first | (with_reducible first | exact HB.out | apply below_alloc | apply pw_below_drewN | apply below_drew1 | refine below_set ?_ GE184.out) | exact HB.out))))
                  (case aL => have := LMc27.out; omega)
                  intro v194 w35 ho hb hg hat
                  rw [← Ny193.out] at ho
                  have n0_ := Aside0.mk (Kd.R_over' (by (with_reducible repeat (first | apply Kd.R_alloc | apply Kd.R_drewN | apply Kd.R_drew)); exact HO_29.out) (Kd.S_typed (by (with_reducible repeat (first | apply Kd.S_alloc | apply Kd.S_drewN | apply Kd.S_drew)); exact HO_8.out)) (by decide) hg)
                  have n1_ := Aside0.mk (blk_grown (g := gb184) (o := .cells #[.int .i64 ((rd_T45 y180 x31_1).f0), .int .i64 ((rd_T45 y180 x31_1).f1)] 45 (0, 0)) (by (with_reducible repeat (first | refine blk_drewN ?_ _ | refine blk_drew ?_ | refine blk_alloc ?_ _)); exact BK184.out) hg (Kd.S_ne HO_8.out BK184.out (by decide)))
                  have n2_ := Aside0.mk (hb)
                  have n3_ := Aside0.mk (ho)
                  clear HO_29
                  clear BK184
                  clear HB
                  clear HO_8
                  clear HO188
                  clear HO192
                  have HO_29 := n0_
                  have BK184 := n1_
                  have HB := n2_
                  have HO195 := n3_
                  clear n0_ n1_ n2_ n3_
                  clear ho hb hg hat
                  refine hK.out _ _ ⟨(blk_cell BK184.out 0).trans rfl, (blk_cell BK184.out 1).trans rfl⟩ (fun hHeld => ?_)
                  clear hK K
                  refine norm_ (a' := ?_) ?_ ?_
                  rotate_left
                  ·show Act.put _ (some 61) _ = _
                   simp only [Act.put, List.setIfInBounds_toArray, List.set_cons_zero, List.set_cons_succ, i64_w, i32_w]
                   rfl
                  refine pu 17 8 #[true, true, true, true, true, true, true, true, true, true, true, true, true, true, true, true, true, true] rfl rfl (any_of HT_.out (by kernel_rfl)) ?_
                  refine done_ (done_of HT_.out (by kernel_rfl)) ?_
                  try go_wp2
                  have n0_ := Aside0.mk (Kd.R_drew HO_29.out)
                  have n1_ := Aside0.mk (Kd.S_drew HO195.out)
                  have n2_ := Aside0.mk (blk_drew BK184.out)
                  have n3_ := Aside0.mk (below_drew1 HB.out)
                  clear HO_29
                  clear HO195
                  clear BK184
                  clear HB
                  have HO_29 := n0_
                  have HO195 := n1_
                  have BK184 := n2_
                  have HB := n3_
                  clear n0_ n1_ n2_ n3_
                  refine start_ (n := 8) (S := fun w' => w'.cell? ⟨gb184, 0, none⟩ = some (.int .i64 ((rd_T45 y180 x31_1).f0)) ∧ w'.cell? ⟨gb184, 1, none⟩ = some (.int .i64 ((rd_T45 y180 x31_1).f1))) (ds := []) Bz0 (by kernel_rfl) rfl rfl ⟨(blk_cell BK184.out 0).trans rfl, (blk_cell BK184.out 1).trans rfl⟩ (fun hHeld => ?_); refine with_tabW hunk_Diff.tab11 hunk_Diff.bits11 (fun HT_ HW_ => ?_)
                  generalize w35.drew = w36 at HO_29 HO195 BK184 HB hHeld ⊢
                  refine pu 0 62 Bz1 rfl rfl (any_of HT_.out (by kernel_rfl)) ?_
                  refine pu 3 65 Bz2 rfl rfl (any_of HT_.out (by kernel_rfl)) ?_
                  refine take_ (i := 1) (N := some 63) (v := ?_) (a' := ?_) Bz3 rfl rfl (take_ofW HT_.out HW_.out (by kernel_rfl)) (fun _ _ _ h => h) (Or.inl ⟨by rfl, ?_⟩) hHeld ?_ ?_; rotate_left; (focus rintro w' ⟨s0, s1⟩; go_simp; with_reducible rfl); rotate_left; (focus go_simp; rfl)
                  refine pu 2 64 Bz4 rfl rfl (any_of HT_.out (by kernel_rfl)) ?_
                  refine pu 6 9 Bz5 rfl rfl (any_of HT_.out (by kernel_rfl)) ?_
                  refine take_ (i := 4) (N := some 66) (v := ?_) (a' := ?_) Bz6 rfl rfl (take_ofW HT_.out HW_.out (by kernel_rfl)) (fun _ _ _ h => h) (Or.inl ⟨by rfl, ?_⟩) hHeld ?_ ?_; rotate_left; (focus rintro w' ⟨s0, s1⟩; go_simp; with_reducible rfl); rotate_left; (focus go_simp; rfl)
                  refine pu 5 67 Bz7 rfl rfl (any_of HT_.out (by kernel_rfl)) ?_
                  refine pu 7 10 Bz8 rfl rfl (any_of HT_.out (by kernel_rfl)) ?_
                  refine done_ (done_of HT_.out (by kernel_rfl)) ?_
                  try go_wp2
                  go_roundg kj11
                  case measure => have := HK1.out; have := HJ11.out; omega
                  case rel => exact ⟨(y193), (wrap64 (((rd_T45 y180 x31_1).f0) + 1)), (wrap64 (((rd_T45 y180 x31_1).f1) + 1)), (wrap64 (x31_1 + 1)), (by first | rfl | (simp; done) | (simp [*]; done)), (by first | rfl | (simp; done) | (simp [*]; done)), (by first | rfl | (simp; done) | (simp [*]; done)), H', ⟨by have := HK1.out; have := HJ11.out; omega⟩, ⟨by (with_reducible repeat (first | apply Kd.S_alloc | apply Kd.S_drewN | apply Kd.S_drew)); exact HO195.out⟩, ⟨by (with_reducible repeat (first | apply Kd.R_alloc | apply Kd.R_drewN | apply Kd.R_drew)); exact Kd.R_mono HO_29.out (fun _ hk => trivial)⟩, ⟨by repeat (first | (with_reducible first | exact HB.out | apply below_alloc | apply pw_below_drewN | apply below_drew1 | refine below_set ?_ GE184.out) | exact HB.out)⟩⟩
                 ·rw [if_neg c27] at H
                  exact absurd H (by simp)
                ·rw [if_neg c25] at H
                 exact absurd H (by simp)
               ·rw [if_neg c24] at H
                exact absurd H (by simp)
              ·rw [if_neg c23] at H
               exact absurd H (by simp)
             ·rw [if_neg c21] at H
              exact absurd H (by simp)
            ·rw [if_neg c20] at H
             exact absurd H (by simp)
           ·rw [if_neg c19] at H
            exact absurd H (by simp)
          ·replace c18 := Bool.eq_false_iff.mpr c18
           subst c18
           have H1 : (hunk_Diff.l0 kj11 l0 l1 x8_1 (wrap64 (((rd_T45 y180 x31_1).f0) + 1)) (wrap64 (((rd_T45 y180 x31_1).f1) + 1)) y180 (y180.length : Int) (wrap64 (x31_1 + 1))) = some (r1, r2) := by rw [if_neg (show ¬ (false = true) by decide)] at H; exact H
           clear H
           have H := H1
           clear H1
           have H' := Aside0.mk H
           clear H
           try go_wp2
           have n0_ := Aside0.mk (Kd.S_drew HO_8.out)
           have n1_ := Aside0.mk (Kd.R_drew HO_29.out)
           have n2_ := Aside0.mk (blk_drew BK184.out)
           have n3_ := Aside0.mk (below_drew1 HB.out)
           clear HO_8
           clear HO_29
           clear BK184
           clear HB
           have HO_8 := n0_
           have HO_29 := n1_
           have BK184 := n2_
           have HB := n3_
           clear n0_ n1_ n2_ n3_
           refine start_ (n := 8) (S := fun w' => w'.cell? ⟨gb184, 0, none⟩ = some (.int .i64 ((rd_T45 y180 x31_1).f0)) ∧ w'.cell? ⟨gb184, 1, none⟩ = some (.int .i64 ((rd_T45 y180 x31_1).f1))) (ds := []) Bz0 (by kernel_rfl) rfl rfl ⟨(blk_cell BK184.out 0).trans rfl, (blk_cell BK184.out 1).trans rfl⟩ (fun hHeld => ?_); refine with_tabW hunk_Diff.tab11 hunk_Diff.bits11 (fun HT_ HW_ => ?_)
           generalize wc.drew = w37 at HO_8 HO_29 BK184 HB hHeld ⊢
           refine pu 0 62 Bz1 rfl rfl (any_of HT_.out (by kernel_rfl)) ?_
           refine pu 3 65 Bz2 rfl rfl (any_of HT_.out (by kernel_rfl)) ?_
           refine take_ (i := 1) (N := some 63) (v := ?_) (a' := ?_) Bz3 rfl rfl (take_ofW HT_.out HW_.out (by kernel_rfl)) (fun _ _ _ h => h) (Or.inl ⟨by rfl, ?_⟩) hHeld ?_ ?_; rotate_left; (focus rintro w' ⟨s0, s1⟩; go_simp; with_reducible rfl); rotate_left; (focus go_simp; rfl)
           refine pu 2 64 Bz4 rfl rfl (any_of HT_.out (by kernel_rfl)) ?_
           refine pu 6 9 Bz5 rfl rfl (any_of HT_.out (by kernel_rfl)) ?_
           refine take_ (i := 4) (N := some 66) (v := ?_) (a' := ?_) Bz6 rfl rfl (take_ofW HT_.out HW_.out (by kernel_rfl)) (fun _ _ _ h => h) (Or.inl ⟨by rfl, ?_⟩) hHeld ?_ ?_; rotate_left; (focus rintro w' ⟨s0, s1⟩; go_simp; with_reducible rfl); rotate_left; (focus go_simp; rfl)
           refine pu 5 67 Bz7 rfl rfl (any_of HT_.out (by kernel_rfl)) ?_
           refine pu 7 10 Bz8 rfl rfl (any_of HT_.out (by kernel_rfl)) ?_
           refine done_ (done_of HT_.out (by kernel_rfl)) ?_
           try go_wp2
           go_roundg kj11
           case measure => have := HK1.out; have := HJ11.out; omega
           case rel => exact ⟨(x8_1), (wrap64 (((rd_T45 y180 x31_1).f0) + 1)), (wrap64 (((rd_T45 y180 x31_1).f1) + 1)), (wrap64 (x31_1 + 1)), (by first | rfl | (simp; done) | (simp [*]; done)), (by first | rfl | (simp; done) | (simp [*]; done)), (by first | rfl | (simp; done) | (simp [*]; done)), H', ⟨by have := HK1.out; have := HJ11.out; omega⟩, ⟨by (with_reducible repeat (first | apply Kd.S_alloc | apply Kd.S_drewN | apply Kd.S_drew)); exact HO_8.out⟩, ⟨by (with_reducible repeat (first | apply Kd.R_alloc | apply Kd.R_drewN | apply Kd.R_drew)); exact Kd.R_mono HO_29.out (fun _ hk => trivial)⟩, ⟨by repeat (first | (with_reducible first | exact HB.out | apply below_alloc | apply pw_below_drewN | apply below_drew1 | refine below_set ?_ GE184.out) | exact HB.out)⟩⟩
       ·rw [if_neg c11] at H
        exact absurd H (by simp)
      ·rw [if_neg c10] at H
       exact absurd H (by simp)
     ·rw [if_neg c9] at H
      have c9b0 : decide (x31_1 < (y180.length : Int)) = false := decide_eq_false c9
      clear c9
      simp only [Option.some.injEq, Prod.mk.injEq] at H
      obtain ⟨rfl, rfl⟩ := H
      go_wp2
      go_ret2
      exact ⟨_, by first | rfl | (simp [errW_none, errW_some] <;> rfl) | (simp [*, errW_none, errW_some] <;> rfl), by (with_reducible repeat (first | apply Kd.S_alloc | apply Kd.S_drewN | apply Kd.S_drew)); exact HO_8.out, by repeat (first | (with_reducible first | exact HB.out | apply below_alloc | apply pw_below_drewN | apply below_drew1) | exact HB.out)⟩
  ·rw [if_neg c5] at H
   exact absurd H (by simp)
 ·rw [if_neg c4] at H
  have c4b0 : (t177 == 0) = false := beq_eq_false_iff_ne.mpr c4
  have c4b1 : (t177 != 0) = true := bne_iff_ne.mpr c4
  simp only [Option.some.injEq, Prod.mk.injEq] at H
  obtain ⟨rfl, rfl⟩ := H
  go_enter Try.func7, Try.ntmps7
  go_wp2_with (first | ((with_reducible refine gate_callee (f := 16) rfl ?_); refine goesL_ (some 16) rfl rfl Try.func16 (by kernel_rfl) rfl #[.slice A0 l0.length c0, .slice A1 l1.length c1] rfl (by (try simp only [List.map_toArray, List.map_cons, List.map_nil]); first | done | rfl | (simp only [List.length_drop, List.length_take]; rfl)) ?_; (with_reducible refine (lcs_Best.calls k _ _ l0 _ _ l1 t176 t177 _ ?side1 ?side2 ?side3 ?side4 A3.out).mono ?_); (case side1 => repeat (first | exact HR0.out | (with_reducible refine Kd.C_alloc ?_ _) | (with_reducible refine Kd.C_drewN ?_ _) | (with_reducible refine Kd.C_drew ?_))); (case side2 => exact HC0.out); (case side3 => repeat (first | exact HR1.out | (with_reducible refine Kd.C_alloc ?_ _) | (with_reducible refine Kd.C_drewN ?_ _) | (with_reducible refine Kd.C_drew ?_))); (case side4 => exact HC1.out); rintro e w38 ⟨v178, rfl, ho0, hb⟩; refine ⟨_, rfl, ?_⟩; have n0_ := Aside0.mk (Kd.R_lower ho0 (below_size (by repeat (first | (with_reducible first | exact HB.out | apply below_alloc | apply pw_below_drewN | apply below_drew1) | exact HB.out)))); have n1_ := Aside0.mk (below_step (by repeat (first | (with_reducible first | exact HB.out | apply below_alloc | apply pw_below_drewN | apply below_drew1) | exact HB.out)) hb); clear HB; have HO179 := n0_; have HB := n1_; clear n0_ n1_; (try clear hb); (try clear hb2); (try clear hk); (try clear hi); (try clear ho0)))
  go_ret2
  exact ⟨_, by first | rfl | (simp [errW_none, errW_some] <;> rfl) | (simp [*, errW_none, errW_some] <;> rfl), by first | exact Kd.S_nil _ _ _ _ _ | exact Kd.N_nil _ _ _ _ _ | exact Kd.V_nil _ _ _ _ _ | exact Kd.Q_nil _ _ _ _ _ | exact Kd.R_nil _ _ _ _ _, by repeat (first | (with_reducible first | exact HB.out | apply below_alloc | apply pw_below_drewN | apply below_drew1) | exact HB.out)⟩
end Go.Proofs.Ytmgbbmjfjnhmiaa.Pr
end
section
namespace Go.Proofs.Ytmgbbmjfjnhmiaa.Pr
open Go.RowKit Go.Proofs.YtmgbbmjfjnhmiaaW.PrintWords Go.Proofs.YtmgbbmjfjnhmiaaW.PrintLast Go.Proofs.YtmgbbmjfjnhmiaaW.PrintMore
def pairA {α β : Type} (a : Kd α) (b : Kd β) : Kd (α × β) where
 sz := a.sz + b.sz
 E := a.E ++ b.E
 K := (Kd.pair a b).K
 M := fun w base ok x cs => ∃ p : Nat → Prop, ∃ c0 c1, cs = c0 ++ c1 ∧ a.M w base (fun k => ok k ∧ p k) x.1 c0 ∧ b.M w base (fun k => ok k ∧ ¬ p k) x.2 c1
 K_len := (Kd.pair a b).K_len
 K_one := (Kd.pair a b).K_one
 K_below := (Kd.pair a b).K_below
 K_of_M := by
  rintro w base ok x cs ⟨p, c0, c1, rfl, h0, h1⟩
  exact ⟨c0, c1, rfl, a.K_of_M h0, b.K_of_M h1⟩
 M_mono := by
  rintro w base ok ok' x cs hok ⟨p, c0, c1, rfl, h0, h1⟩
  exact ⟨p, c0, c1, rfl, a.M_mono (fun k hk => ⟨hok k hk.1, hk.2⟩) h0, b.M_mono (fun k hk => ⟨hok k hk.1, hk.2⟩) h1⟩
 M_bound := by
  rintro w base ok x cs ⟨p, c0, c1, rfl, h0, h1⟩
  refine ⟨p, c0, c1, rfl, a.M_mono ?_ (a.M_bound h0), b.M_mono ?_ (b.M_bound h1)⟩
  ·rintro k ⟨h2, h3, h4, q, hq, hc⟩
   exact ⟨⟨h2.1, h3, h4, q, List.mem_append_left _ hq, hc⟩, h2.2⟩
  ·rintro k ⟨h2, h3, h4, q, hq, hc⟩
   exact ⟨⟨h2.1, h3, h4, q, List.mem_append_right _ hq, hc⟩, h2.2⟩
 M_move := by
  rintro w w1 base ok x cs hm ⟨p, c0, c1, rfl, h0, h1⟩
  exact ⟨p, c0, c1, rfl, a.M_move (fun k hk => hm k hk.1) h0, b.M_move (fun k hk => hm k hk.1) h1⟩
 M_lower := by
  rintro w base base' ok x cs hb ⟨p, c0, c1, rfl, h0, h1⟩
  exact ⟨p, c0, c1, rfl, a.M_lower hb h0, b.M_lower hb h1⟩
theorem infoHa : (Try.prog.info? 40).map (fun i => (i.zero, i.size, i.bytes)) = some (some (.agg #[(.int .i64 0), (.slice none 0 0), (.slice none 0 0)]), 3, 56) := by kernel_rfl
def kHa : Kd S40 := Kd.iso (Kd.pair (Kd.int .i64) (pairA (Kd.slice 9 Kd.string) (Kd.slice 9 Kd.string))) (fun x : S40 => (x.f0, x.f1, x.f2))
theorem kHa_openM {w : World} {base : Nat} {ok : Nat → Prop} {x : S40} {cs : List Value} (h : kHa.M w base ok x cs) :
  ∃ (p : Nat → Prop) (v1 v2 : Value), cs = [.int .i64 x.f0, v1, v2] ∧ Kd.string.R 9 w base (fun k => ok k ∧ p k) v1 x.f1 ∧ Kd.string.R 9 w base (fun k => ok k ∧ ¬ p k) v2 x.f2 := by
 obtain ⟨_, _, rfl, rfl, ⟨p, _, _, rfl, ⟨v1, rfl, g1⟩, ⟨v2, rfl, g2⟩⟩⟩ := h
 exact ⟨p, v1, v2, rfl, g1, g2⟩
theorem kHa_mkM {w : World} {base : Nat} {ok : Nat → Prop} (x : S40) (p : Nat → Prop) {v1 v2 : Value} (g1 : Kd.string.R 9 w base (fun k => ok k ∧ p k) v1 x.f1) (g2 : Kd.string.R 9 w base (fun k => ok k ∧ ¬ p k) v2 x.f2) :
  kHa.M w base ok x [.int .i64 x.f0, v1, v2] :=
 ⟨[.int .i64 x.f0], [v1, v2], rfl, rfl, p, [v1], [v2], rfl, ⟨v1, rfl, g1⟩, ⟨v2, rfl, g2⟩⟩
theorem kHa_weakM {w : World} {base : Nat} {ok : Nat → Prop} {x : S40} {cs : List Value} (h : kHa.M w base ok x cs) : k40.M w base ok x cs := by
 obtain ⟨p, v1, v2, rfl, g1, g2⟩ := kHa_openM h
 exact k40_mkM w base ok x (Kd.R_mono g1 (fun _ hk => hk.1)) (Kd.R_mono g2 (fun _ hk => hk.1))
theorem kHa_weakS {e : Nat} {w : World} {base : Nat} {ok : Nat → Prop} {v : Value} {xs : List S40} (h : Kd.S kHa e w base ok v xs) : Kd.S k40 e w base ok v xs := by
 obtain ⟨f, h0, inner, ho, hr⟩ := h
 exact ⟨f, h0, inner, ho, hr.imp_ (fun _ _ hp => kHa_weakM hp)⟩
theorem kHa_lendg1 {e : Nat} {W : World} {base g n cap : Nat} {ok : Nat → Prop} {xs : List S40} (hS : Kd.S kHa e W base ok (.slice (some ⟨g, 0, none⟩) n cap) xs) (hfs : ∀ k, W.heap.size ≤ k → ok k) (i : Nat) (h1 : i < n) :
  ∃ (v1 : Value) (okr : Nat → Prop), W.cell? ⟨g, i * 3 + 1, none⟩ = some v1 ∧ W.frozen? ⟨g, i * 3 + 1, none⟩ = false ∧ (∀ k, W.heap.size ≤ k → okr k) ∧ (∀ k, okr k → ok k ∧ k ≠ g) ∧ Kd.string.R 9 W base okr v1 (xs.getD i z40).f1 ∧
   ∀ (w1 : World) (v' : Value) (ys : List ByteArray), W.grownBy w1 v1.ownBlock → Kd.string.R 9 w1 base okr v' ys → w1.cell? ⟨g, i * 3 + 1, none⟩ = some v1 ∧ w1.frozen? ⟨g, i * 3 + 1, none⟩ = false ∧
    Kd.S kHa e (w1.setCell ⟨g, i * 3 + 1, none⟩ v') base ok (.slice (some ⟨g, 0, none⟩) n cap) (xs.set i ⟨(xs.getD i z40).f0, ys, (xs.getD i z40).f2⟩) ∧ w1.grownBy (w1.setCell ⟨g, i * 3 + 1, none⟩ v') (some g) := by
 have hlt : g < W.heap.size := Kd.S_lt hS g (by simp [Value.ownBlock])
 have hS' : Kd.S kHa e W base (fun k => ok k ∧ ¬ W.heap.size ≤ k) (.slice (some ⟨g, 0, none⟩) n cap) xs := Kd.S_mono (Kd.S_bound hS) (fun k hk => ⟨hk.1, by have := hk.2.2.1; omega⟩)
 obtain ⟨oki, c, hcl, hM, hcc, hfr, hoki, hH⟩ := Kd.S_elem hS' z40 (i : Int) (by omega) (by omega)
 rw [Int.toNat_natCast] at hM hcc
 simp only [Int.toNat_natCast] at hfr
 obtain ⟨p, v1, v2, rfl, g1, g2⟩ := kHa_openM hM
 have hsz : kHa.sz = 3 := rfl
 rw [hsz] at hcc hfr
 have hr1 : ∀ k, v1.ownBlock = some k → oki k ∧ p k := g1.1
 refine ⟨v1, fun k => (oki k ∧ p k) ∨ W.heap.size ≤ k, hcc 1 v1 rfl, hfr 1, fun k hk => .inr hk, fun k hk => hk.elim (fun h => ⟨(hoki k h.1).1.1, (hoki k h.1).2⟩) (fun h => ⟨hfs k h, by omega⟩), Kd.R_mono g1 (fun _ hk => .inl hk), fun w1 v' ys hg hR => ?_⟩
 have hne : (some g : Option Nat) ≠ v1.ownBlock := fun he => (hoki g (hr1 g he.symm).1).2 rfl
 have hH1 := Kd.H_grown hH hg (fun k hk => (hr1 k hk).1)
 have g2' : Kd.string.R 9 w1 base (fun k => (oki k ∨ W.heap.size ≤ k) ∧ ¬ (p k ∨ W.heap.size ≤ k)) v2 (xs.getD i z40).f2 :=
  Kd.R_mono (Kd.R_grown (Kd.R_bound g2) hg (fun k hk he => hk.1.2 (hr1 k he.symm).2)) (fun k hk => ⟨.inl hk.1.1, fun h => h.elim hk.1.2 (fun h => by have := hk.2.2.1; omega)⟩)
 have g1' : Kd.string.R 9 w1 base (fun k => (oki k ∨ W.heap.size ≤ k) ∧ (p k ∨ W.heap.size ≤ k)) v' ys := Kd.R_mono hR (fun k hk => hk.elim (fun h => ⟨.inl h.1, .inl h.2⟩) (fun h => ⟨.inr h, .inr h⟩))
 have h3 := Kd.S_seg (okg := fun k => W.heap.size ≤ k) hH1 (by omega) (by omega) (seg := [v']) (j := 1) (by show 1 + 1 ≤ 3; omega)
  (x' := ⟨(xs.getD i z40).f0, ys, (xs.getD i z40).f2⟩) (kHa_mkM ⟨(xs.getD i z40).f0, ys, (xs.getD i z40).f2⟩ (fun k => p k ∨ W.heap.size ≤ k) g1' g2') (fun k hk => hk) (fun k hk => ⟨hfs k hk, by omega⟩)
 rw [Int.toNat_natCast, hsz] at h3
 exact ⟨cell_grown hg (hcc 1 v1 rfl) hne, by rw [hg.frozen_far _ hlt hne]; exact hfr 1, h3.1, h3.2⟩
theorem kHa_lend1 {e : Nat} {W : World} {base g n cap : Nat} {xs : List S40} (hS : Kd.S kHa e W base (fun _ => True) (.slice (some ⟨g, 0, none⟩) n cap) xs) (i : Nat) (h1 : i < n) :
  ∃ (v1 : Value) (okr : Nat → Prop), W.cell? ⟨g, i * 3 + 1, none⟩ = some v1 ∧ W.frozen? ⟨g, i * 3 + 1, none⟩ = false ∧ (∀ k, W.heap.size ≤ k → okr k) ∧ (∀ k, v1.ownBlock = some k → k ≠ g) ∧ Kd.string.R 9 W base okr v1 (xs.getD i z40).f1 ∧
   ∀ (w1 : World) (v' : Value) (ys : List ByteArray), W.grownBy w1 v1.ownBlock → Kd.string.R 9 w1 base okr v' ys → w1.cell? ⟨g, i * 3 + 1, none⟩ = some v1 ∧ w1.frozen? ⟨g, i * 3 + 1, none⟩ = false ∧
    Kd.S kHa e (w1.setCell ⟨g, i * 3 + 1, none⟩ v') base (fun _ => True) (.slice (some ⟨g, 0, none⟩) n cap) (xs.set i ⟨(xs.getD i z40).f0, ys, (xs.getD i z40).f2⟩) ∧ w1.grownBy (w1.setCell ⟨g, i * 3 + 1, none⟩ v') (some g) := by
 obtain ⟨v, okr, h2, h3, h4, h5, h6, h7⟩ := kHa_lendg1 hS (fun _ _ => trivial) i h1
 exact ⟨v, okr, h2, h3, h4, fun k hk => (h5 k (h6.1 k hk)).2, h6, h7⟩
theorem kHa_lendg2 {e : Nat} {W : World} {base g n cap : Nat} {ok : Nat → Prop} {xs : List S40} (hS : Kd.S kHa e W base ok (.slice (some ⟨g, 0, none⟩) n cap) xs) (hfs : ∀ k, W.heap.size ≤ k → ok k) (i : Nat) (h1 : i < n) :
  ∃ (v2 : Value) (okr : Nat → Prop), W.cell? ⟨g, i * 3 + 2, none⟩ = some v2 ∧ W.frozen? ⟨g, i * 3 + 2, none⟩ = false ∧ (∀ k, W.heap.size ≤ k → okr k) ∧ (∀ k, okr k → ok k ∧ k ≠ g) ∧ Kd.string.R 9 W base okr v2 (xs.getD i z40).f2 ∧
   ∀ (w1 : World) (v' : Value) (ys : List ByteArray), W.grownBy w1 v2.ownBlock → Kd.string.R 9 w1 base okr v' ys → w1.cell? ⟨g, i * 3 + 2, none⟩ = some v2 ∧ w1.frozen? ⟨g, i * 3 + 2, none⟩ = false ∧
    Kd.S kHa e (w1.setCell ⟨g, i * 3 + 2, none⟩ v') base ok (.slice (some ⟨g, 0, none⟩) n cap) (xs.set i ⟨(xs.getD i z40).f0, (xs.getD i z40).f1, ys⟩) ∧ w1.grownBy (w1.setCell ⟨g, i * 3 + 2, none⟩ v') (some g) := by
 have hlt : g < W.heap.size := Kd.S_lt hS g (by simp [Value.ownBlock])
 have hS' : Kd.S kHa e W base (fun k => ok k ∧ ¬ W.heap.size ≤ k) (.slice (some ⟨g, 0, none⟩) n cap) xs := Kd.S_mono (Kd.S_bound hS) (fun k hk => ⟨hk.1, by have := hk.2.2.1; omega⟩)
 obtain ⟨oki, c, hcl, hM, hcc, hfr, hoki, hH⟩ := Kd.S_elem hS' z40 (i : Int) (by omega) (by omega)
 rw [Int.toNat_natCast] at hM hcc
 simp only [Int.toNat_natCast] at hfr
 obtain ⟨p, v1, v2, rfl, g1, g2⟩ := kHa_openM hM
 have hsz : kHa.sz = 3 := rfl
 rw [hsz] at hcc hfr
 have hr2 : ∀ k, v2.ownBlock = some k → oki k ∧ ¬ p k := g2.1
 refine ⟨v2, fun k => (oki k ∧ ¬ p k) ∨ W.heap.size ≤ k, hcc 2 v2 rfl, hfr 2, fun k hk => .inr hk, fun k hk => hk.elim (fun h => ⟨(hoki k h.1).1.1, (hoki k h.1).2⟩) (fun h => ⟨hfs k h, by omega⟩), Kd.R_mono g2 (fun _ hk => .inl hk), fun w1 v' ys hg hR => ?_⟩
 have hne : (some g : Option Nat) ≠ v2.ownBlock := fun he => (hoki g (hr2 g he.symm).1).2 rfl
 have hH1 := Kd.H_grown hH hg (fun k hk => (hr2 k hk).1)
 have g1' : Kd.string.R 9 w1 base (fun k => (oki k ∨ W.heap.size ≤ k) ∧ (p k ∧ ¬ W.heap.size ≤ k)) v1 (xs.getD i z40).f1 :=
  Kd.R_mono (Kd.R_grown (Kd.R_bound g1) hg (fun k hk he => (hr2 k he.symm).2 hk.1.2)) (fun k hk => ⟨.inl hk.1.1, hk.1.2, by have := hk.2.2.1; omega⟩)
 have g2' : Kd.string.R 9 w1 base (fun k => (oki k ∨ W.heap.size ≤ k) ∧ ¬ (p k ∧ ¬ W.heap.size ≤ k)) v' ys := Kd.R_mono hR (fun k hk => hk.elim (fun h => ⟨.inl h.1, fun h2 => h.2 h2.1⟩) (fun h => ⟨.inr h, fun h2 => h2.2 h⟩))
 have h3 := Kd.S_seg (okg := fun k => W.heap.size ≤ k) hH1 (by omega) (by omega) (seg := [v']) (j := 2) (by show 2 + 1 ≤ 3; omega)
  (x' := ⟨(xs.getD i z40).f0, (xs.getD i z40).f1, ys⟩) (kHa_mkM ⟨(xs.getD i z40).f0, (xs.getD i z40).f1, ys⟩ (fun k => p k ∧ ¬ W.heap.size ≤ k) g1' g2') (fun k hk => hk) (fun k hk => ⟨hfs k hk, by omega⟩)
 rw [Int.toNat_natCast, hsz] at h3
 exact ⟨cell_grown hg (hcc 2 v2 rfl) hne, by rw [hg.frozen_far _ hlt hne]; exact hfr 2, h3.1, h3.2⟩
theorem kHa_lend2 {e : Nat} {W : World} {base g n cap : Nat} {xs : List S40} (hS : Kd.S kHa e W base (fun _ => True) (.slice (some ⟨g, 0, none⟩) n cap) xs) (i : Nat) (h1 : i < n) :
  ∃ (v2 : Value) (okr : Nat → Prop), W.cell? ⟨g, i * 3 + 2, none⟩ = some v2 ∧ W.frozen? ⟨g, i * 3 + 2, none⟩ = false ∧ (∀ k, W.heap.size ≤ k → okr k) ∧ (∀ k, v2.ownBlock = some k → k ≠ g) ∧ Kd.string.R 9 W base okr v2 (xs.getD i z40).f2 ∧
   ∀ (w1 : World) (v' : Value) (ys : List ByteArray), W.grownBy w1 v2.ownBlock → Kd.string.R 9 w1 base okr v' ys → w1.cell? ⟨g, i * 3 + 2, none⟩ = some v2 ∧ w1.frozen? ⟨g, i * 3 + 2, none⟩ = false ∧
    Kd.S kHa e (w1.setCell ⟨g, i * 3 + 2, none⟩ v') base (fun _ => True) (.slice (some ⟨g, 0, none⟩) n cap) (xs.set i ⟨(xs.getD i z40).f0, (xs.getD i z40).f1, ys⟩) ∧ w1.grownBy (w1.setCell ⟨g, i * 3 + 2, none⟩ v') (some g) := by
 obtain ⟨v, okr, h2, h3, h4, h5, h6, h7⟩ := kHa_lendg2 hS (fun _ _ => trivial) i h1
 exact ⟨v, okr, h2, h3, h4, fun k hk => (h5 k (h6.1 k hk)).2, h6, h7⟩
end Go.Proofs.Ytmgbbmjfjnhmiaa.Pr
end
section
namespace Go.Proofs.Ytmgbbmjfjnhmiaa.Pr
open Go.RowKit Go.Proofs.YtmgbbmjfjnhmiaaW.PrintWords Go.Proofs.YtmgbbmjfjnhmiaaW.PrintLast Go.Proofs.YtmgbbmjfjnhmiaaW.PrintMore
attribute [local go_sem] max2_int min2_int max_two min_two max_three min_three max_four min_four   
def sidingref14_Both.f (k : Nat) (l0 : List ByteArray) (l1 : List ByteArray) : Option (Int) := (sidingref13_Lines.f k l0).bind fun t343 => (if t343 = 0 then ((sidingref13_Lines.f k l1).bind fun t344 => (some t344)) else ((sidingref13_Lines.f k l0).bind fun t345 => (some t345)))
set_option maxHeartbeats 8000000 in
set_option maxRecDepth 100000 in
theorem sidingref14_Both.calls (k : Nat) (A0 : Option Addr) (c0 : Nat) (l0 : List ByteArray) (A1 : Option Addr) (c1 : Nat) (l1 : List ByteArray) (r : Int) (w : World) (hr0 : Kd.C Kd.string w A0 l0.length l0) (hc0 : l0.length ≤ c0) (hr1 : Kd.C Kd.string w A1 l1.length l1) (hc1 : l1.length ≤ c1) (h : sidingref14_Both.f k l0 l1 = some r) :
  Calls Try.prog 28 #[.slice A0 l0.length c0, .slice A1 l1.length c1] w fun e w' => e = .returned (.int .i64 r) ∧ Below w.heap.size w w' := by
 have HR0 := Aside0.mk hr0
 have HC0 := Aside0.mk hc0
 clear hr0 hc0
 have HR1 := Aside0.mk hr1
 have HC1 := Aside0.mk hc1
 clear hr1 hc1
 have HB := Aside0.mk (Below.refl w.heap.size w)
 have H : ((sidingref13_Lines.f k l0).bind fun t343 => (if t343 = 0 then ((sidingref13_Lines.f k l1).bind fun t344 => (some t344)) else ((sidingref13_Lines.f k l0).bind fun t345 => (some t345)))) = some r := h
 clear h
 replace H := Option.bind_eq_some_iff.mp H
 obtain ⟨t343, A30, H⟩ := H
 replace H : (if t343 = 0 then ((sidingref13_Lines.f k l1).bind fun t344 => (some t344)) else ((sidingref13_Lines.f k l0).bind fun t345 => (some t345))) = some r := H
 have A3 := Aside0.mk A30
 clear A30
 by_cases c4 : t343 = 0
 ·rw [if_pos c4] at H
  have c4b0 : (t343 == 0) = true := beq_iff_eq.mpr c4
  have c4b1 : (t343 != 0) = false := bne_eq_false_iff_eq.mpr c4
  clear c4
  replace H := Option.bind_eq_some_iff.mp H
  obtain ⟨t344, A50, H⟩ := H
  replace H : (some t344) = some r := H
  have A5 := Aside0.mk A50
  (try have sameA5 := (Option.some.inj (A3.out.symm.trans A5.out) : t343 = t344))
  clear A50
  obtain rfl := Option.some.inj H
  go_enter Try.func28, Try.ntmps28
  go_wp2_with (first | ((with_reducible refine gate_callee (f := 21) rfl ?_); refine goesL_ (some 6) rfl rfl Try.func21 (by kernel_rfl) rfl #[.slice A0 l0.length c0] rfl (by (try simp only [List.map_toArray, List.map_cons, List.map_nil]); first | done | rfl | (simp only [List.length_drop, List.length_take]; rfl)) ?_; (with_reducible refine (sidingref13_Lines.calls k _ _ l0 t343 _ ?side1 ?side2 A3.out).mono ?_); (case side1 => repeat (first | exact HR0.out | (with_reducible refine Kd.C_alloc ?_ _) | (with_reducible refine Kd.C_drewN ?_ _) | (with_reducible refine Kd.C_drew ?_))); (case side2 => exact HC0.out); rintro e w6 ⟨rfl, hb⟩; refine ⟨_, rfl, ?_⟩; have n0_ := Aside0.mk (below_step (by repeat (first | (with_reducible first | exact HB.out | apply below_alloc | apply pw_below_drewN | apply below_drew1) | exact HB.out)) hb); clear HB; have HB := n0_; clear n0_; (try clear hb); (try clear hb2); (try clear hk); (try clear hi)) | ((with_reducible refine gate_callee (f := 21) rfl ?_); refine goesL_ (some 11) rfl rfl Try.func21 (by kernel_rfl) rfl #[.slice A1 l1.length c1] rfl (by (try simp only [List.map_toArray, List.map_cons, List.map_nil]); first | done | rfl | (simp only [List.length_drop, List.length_take]; rfl)) ?_; (with_reducible refine (sidingref13_Lines.calls k _ _ l1 t344 _ ?side1 ?side2 A5.out).mono ?_); (case side1 => repeat (first | exact (Kd.C_below HR1.out HB.out) | (with_reducible refine Kd.C_alloc ?_ _) | (with_reducible refine Kd.C_drewN ?_ _) | (with_reducible refine Kd.C_drew ?_))); (case side2 => exact HC1.out); rintro e w7 ⟨rfl, hb⟩; refine ⟨_, rfl, ?_⟩; have n0_ := Aside0.mk (below_step (by repeat (first | (with_reducible first | exact HB.out | apply below_alloc | apply pw_below_drewN | apply below_drew1) | exact HB.out)) hb); clear HB; have HB := n0_; clear n0_; (try clear hb); (try clear hb2); (try clear hk); (try clear hi)))
  go_ret
  (try rw [sameA5])
  exact ⟨by first | rfl | (simp [errW_none, errW_some] <;> rfl) | (simp [*, errW_none, errW_some] <;> rfl), by repeat (first | (with_reducible first | exact HB.out | apply below_alloc | apply pw_below_drewN | apply below_drew1) | exact HB.out)⟩
 ·rw [if_neg c4] at H
  have c4b0 : (t343 == 0) = false := beq_eq_false_iff_ne.mpr c4
  have c4b1 : (t343 != 0) = true := bne_iff_ne.mpr c4
  replace H := Option.bind_eq_some_iff.mp H
  obtain ⟨t345, A80, H⟩ := H
  replace H : (some t345) = some r := H
  have A8 := Aside0.mk A80
  (try have sameA8 := (Option.some.inj (A3.out.symm.trans A8.out) : t343 = t345))
  clear A80
  obtain rfl := Option.some.inj H
  go_enter Try.func28, Try.ntmps28
  go_wp2_with (first | ((with_reducible refine gate_callee (f := 21) rfl ?_); refine goesL_ (some 6) rfl rfl Try.func21 (by kernel_rfl) rfl #[.slice A0 l0.length c0] rfl (by (try simp only [List.map_toArray, List.map_cons, List.map_nil]); first | done | rfl | (simp only [List.length_drop, List.length_take]; rfl)) ?_; (with_reducible refine (sidingref13_Lines.calls k _ _ l0 t343 _ ?side1 ?side2 A3.out).mono ?_); (case side1 => repeat (first | exact HR0.out | (with_reducible refine Kd.C_alloc ?_ _) | (with_reducible refine Kd.C_drewN ?_ _) | (with_reducible refine Kd.C_drew ?_))); (case side2 => exact HC0.out); rintro e w9 ⟨rfl, hb⟩; refine ⟨_, rfl, ?_⟩; have n0_ := Aside0.mk (below_step (by repeat (first | (with_reducible first | exact HB.out | apply below_alloc | apply pw_below_drewN | apply below_drew1) | exact HB.out)) hb); clear HB; have HB := n0_; clear n0_; (try clear hb); (try clear hb2); (try clear hk); (try clear hi)) | ((with_reducible refine gate_callee (f := 21) rfl ?_); refine goesL_ (some 9) rfl rfl Try.func21 (by kernel_rfl) rfl #[.slice A0 l0.length c0] rfl (by (try simp only [List.map_toArray, List.map_cons, List.map_nil]); first | done | rfl | (simp only [List.length_drop, List.length_take]; rfl)) ?_; (with_reducible refine (sidingref13_Lines.calls k _ _ l0 t345 _ ?side1 ?side2 A8.out).mono ?_); (case side1 => repeat (first | exact (Kd.C_below HR0.out HB.out) | (with_reducible refine Kd.C_alloc ?_ _) | (with_reducible refine Kd.C_drewN ?_ _) | (with_reducible refine Kd.C_drew ?_))); (case side2 => exact HC0.out); rintro e w10 ⟨rfl, hb⟩; refine ⟨_, rfl, ?_⟩; have n0_ := Aside0.mk (below_step (by repeat (first | (with_reducible first | exact HB.out | apply below_alloc | apply pw_below_drewN | apply below_drew1) | exact HB.out)) hb); clear HB; have HB := n0_; clear n0_; (try clear hb); (try clear hb2); (try clear hk); (try clear hi)))
  go_ret
  (try rw [sameA8])
  exact ⟨by first | rfl | (simp [errW_none, errW_some] <;> rfl) | (simp [*, errW_none, errW_some] <;> rfl), by repeat (first | (with_reducible first | exact HB.out | apply below_alloc | apply pw_below_drewN | apply below_drew1) | exact HB.out)⟩
end Go.Proofs.Ytmgbbmjfjnhmiaa.Pr
end
