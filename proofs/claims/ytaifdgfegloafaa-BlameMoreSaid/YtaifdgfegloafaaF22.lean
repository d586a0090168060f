-- Written by wip/tools/myprint.py of this project (a walk of the program's text by program).
import Derived.Test.YtaifdgfegloafaaK
import Derived.Test.YtaifdgfegloafaaF26
namespace Go.Proofs.Ytaifdgfegloafaa.Pr
open Go.RowKit Go.Proofs.YtaifdgfegloafaaW.PrintWords Go.Proofs.YtaifdgfegloafaaW.PrintLast Go.Proofs.YtaifdgfegloafaaW.PrintMore
attribute [local go_sem] max2_int min2_int max_two min_two max_three min_three max_four min_four   -- for this text's walks alone
set_option linter.unusedVariables false
set_option linter.unusedSimpArgs false

/-! ### blame_origins: function 22 -/
mutual
def blame_origins.l0 : Nat → List (List ByteArray) → List (S43) → List (List ByteArray) → Int → Int → Option ((List (S43)))
  | 0, _, _, _, _, _ => none
  | k + 1, x0, x3, x12, x13, x14 => if x14 < x13 then (if 0 ≤ x14 then (if x14 < (x12.length : Int) then (if 0 ≤ ((rd_Lstr x12 x14).length : Int) then (if (((rd_Lstr x12 x14).length : Int) : Int).toNat ≤ 17592186044416 then ((some (List.replicate (((rd_Lstr x12 x14).length : Int) : Int).toNat z43 : List (S43))).bind fun y160 => (blame_origins.l1 k x0 x3 x14 (rd_Lstr x12 x14) y160 x12 x13 x14 (y160.length : Int) 0)) else (none)) else (none)) else (none)) else (none)) else (some x3)
def blame_origins.l1 : Nat → List (List ByteArray) → List (S43) → Int → List ByteArray → List (S43) → List (List ByteArray) → Int → Int → Int → Int → Option ((List (S43)))
  | 0, _, _, _, _, _, _, _, _, _, _ => none
  | k + 1, x0, x3, x4, x5, x6, x12, x13, x14, x23, x24 => if x24 < x23 then (if 0 ≤ x24 then (if x24 < (x6.length : Int) then (blame_origins.l1 k x0 x3 x4 x5 (x6.set (x24 : Int).toNat (⟨x4, x24⟩ : S43)) x12 x13 x14 x23 (wrap64 (x24 + 1))) else (none)) else (none)) else (if x4 > 0 then (if 0 ≤ (wrap64 (x4 - 1)) then (if (wrap64 (x4 - 1)) < (x0.length : Int) then ((lcs_Best.f k (rd_Lstr x0 (wrap64 (x4 - 1))) x5).bind fun bt165 => (blame_origins.l2 k x0 x3 x6 x12 x13 x14 bt165.1 (bt165.1.length : Int) 0)) else (none)) else (none)) else (blame_origins.l0 k x0 x6 x12 x13 (wrap64 (x14 + 1))))
def blame_origins.l2 : Nat → List (List ByteArray) → List (S43) → List (S43) → List (List ByteArray) → Int → Int → List (S58) → Int → Int → Option ((List (S43)))
  | 0, _, _, _, _, _, _, _, _, _ => none
  | k + 1, x0, x3, x6, x12, x13, x14, x46, x47, x48 => if x48 < x47 then (if 0 ≤ x48 then (if x48 < (x46.length : Int) then (if 0 ≤ ((rd_T58 x46 x48).f0) then (if ((rd_T58 x46 x48).f0) < (x3.length : Int) then (if 0 ≤ ((rd_T58 x46 x48).f1) then (if ((rd_T58 x46 x48).f1) < (x6.length : Int) then (blame_origins.l2 k x0 x3 (x6.set (((rd_T58 x46 x48).f1) : Int).toNat (⟨(rd_T43 x3 ((rd_T58 x46 x48).f0)).f0, (rd_T43 x3 ((rd_T58 x46 x48).f0)).f1⟩ : S43)) x12 x13 x14 x46 x47 (wrap64 (x48 + 1))) else (none)) else (none)) else (none)) else (none)) else (none)) else (none)) else (blame_origins.l0 k x0 x6 x12 x13 (wrap64 (x14 + 1)))
end
def blame_origins.f (k : Nat) (l0 : List (List ByteArray)) : Option ((List (S43))) := blame_origins.l0 k l0 ([] : List (S43)) l0 (l0.length : Int) 0
theorem blame_origins.mono_l : ∀ k, (∀ y0 y1 y2 y3 y4, LeO (blame_origins.l0 k y0 y1 y2 y3 y4) (blame_origins.l0 (k + 1) y0 y1 y2 y3 y4)) ∧ (∀ y0 y1 y2 y3 y4 y5 y6 y7 y8 y9, LeO (blame_origins.l1 k y0 y1 y2 y3 y4 y5 y6 y7 y8 y9) (blame_origins.l1 (k + 1) y0 y1 y2 y3 y4 y5 y6 y7 y8 y9)) ∧ (∀ y0 y1 y2 y3 y4 y5 y6 y7 y8, LeO (blame_origins.l2 k y0 y1 y2 y3 y4 y5 y6 y7 y8) (blame_origins.l2 (k + 1) y0 y1 y2 y3 y4 y5 y6 y7 y8))
  | 0 => ⟨fun _ _ _ _ _ r h => by simp [blame_origins.l0] at h, fun _ _ _ _ _ _ _ _ _ _ r h => by simp [blame_origins.l1] at h, fun _ _ _ _ _ _ _ _ _ r h => by simp [blame_origins.l2] at h⟩
  | k + 1 => by
    obtain ⟨ih0, ih1, ih2⟩ := blame_origins.mono_l k
    refine ⟨?_, ?_, ?_⟩
    · intro y0 y1 y2 y3 y4
      unfold blame_origins.l0
      repeat' first
      | (with_reducible exact ih0 _ _ _ _ _)
      | (with_reducible exact ih1 _ _ _ _ _ _ _ _ _ _)
      | (with_reducible exact ih2 _ _ _ _ _ _ _ _ _)
      | (with_reducible exact lcs_Best.mono _ _ _)
      | (with_reducible exact LeO.refl _)
      | (with_reducible exact LeO.none _)
      | (with_reducible refine LeO.ite ?_ ?_)
      | (with_reducible refine LeO.bind ?_ (fun _ => ?_))
      | exact ih0 _ _ _ _ _
      | exact ih1 _ _ _ _ _ _ _ _ _ _
      | exact ih2 _ _ _ _ _ _ _ _ _
      | exact lcs_Best.mono _ _ _
      | exact LeO.none _
      | refine LeO.ite ?_ ?_
      | refine LeO.bind ?_ (fun _ => ?_)
    · intro y0 y1 y2 y3 y4 y5 y6 y7 y8 y9
      unfold blame_origins.l1
      repeat' first
      | (with_reducible exact ih0 _ _ _ _ _)
      | (with_reducible exact ih1 _ _ _ _ _ _ _ _ _ _)
      | (with_reducible exact ih2 _ _ _ _ _ _ _ _ _)
      | (with_reducible exact lcs_Best.mono _ _ _)
      | (with_reducible exact LeO.refl _)
      | (with_reducible exact LeO.none _)
      | (with_reducible refine LeO.ite ?_ ?_)
      | (with_reducible refine LeO.bind ?_ (fun _ => ?_))
      | exact ih0 _ _ _ _ _
      | exact ih1 _ _ _ _ _ _ _ _ _ _
      | exact ih2 _ _ _ _ _ _ _ _ _
      | exact lcs_Best.mono _ _ _
      | exact LeO.none _
      | refine LeO.ite ?_ ?_
      | refine LeO.bind ?_ (fun _ => ?_)
    · intro y0 y1 y2 y3 y4 y5 y6 y7 y8
      unfold blame_origins.l2
      repeat' first
      | (with_reducible exact ih0 _ _ _ _ _)
      | (with_reducible exact ih1 _ _ _ _ _ _ _ _ _ _)
      | (with_reducible exact ih2 _ _ _ _ _ _ _ _ _)
      | (with_reducible exact lcs_Best.mono _ _ _)
      | (with_reducible exact LeO.refl _)
      | (with_reducible exact LeO.none _)
      | (with_reducible refine LeO.ite ?_ ?_)
      | (with_reducible refine LeO.bind ?_ (fun _ => ?_))
      | exact ih0 _ _ _ _ _
      | exact ih1 _ _ _ _ _ _ _ _ _ _
      | exact ih2 _ _ _ _ _ _ _ _ _
      | exact lcs_Best.mono _ _ _
      | exact LeO.none _
      | refine LeO.ite ?_ ?_
      | refine LeO.bind ?_ (fun _ => ?_)
theorem blame_origins.mono : ∀ a0 k, LeO (blame_origins.f k a0) (blame_origins.f (k + 1) a0) := by
  intro a0 k
  obtain ⟨ih0, ih1, ih2⟩ := blame_origins.mono_l k
  unfold blame_origins.f
  repeat' first
      | (with_reducible exact ih0 _ _ _ _ _)
      | (with_reducible exact ih1 _ _ _ _ _ _ _ _ _ _)
      | (with_reducible exact ih2 _ _ _ _ _ _ _ _ _)
      | (with_reducible exact lcs_Best.mono _ _ _)
      | (with_reducible exact LeO.refl _)
      | (with_reducible exact LeO.none _)
      | (with_reducible refine LeO.ite ?_ ?_)
      | (with_reducible refine LeO.bind ?_ (fun _ => ?_))
      | exact ih0 _ _ _ _ _
      | exact ih1 _ _ _ _ _ _ _ _ _ _
      | exact ih2 _ _ _ _ _ _ _ _ _
      | exact lcs_Best.mono _ _ _
      | exact LeO.none _
      | refine LeO.ite ?_ ?_
      | refine LeO.bind ?_ (fun _ => ?_)
def blame_origins.T16 : Bool × List (List Nat × List Nat) := (true, [([], []), ([], []), ([1], [1]), ([], []), ([], []), ([4], [4]), ([3, 5], [3, 5]), ([6], [6]), ([0, 2, 0, 1, 2, 3, 4, 5, 6, 7], [0, 2]), ([8, 7, 0, 1, 2, 3, 4, 5, 6, 7], [7, 8])])
def blame_origins.B16 : List Nat := [0, 0, 2, 0, 0, 16, 56, 120, 255, 511]
theorem blame_origins.tab16 : rtab .any (opsOf Try.f22 16) = blame_origins.T16 := by kernel_rfl
theorem blame_origins.bits16 : waitsOk blame_origins.T16.2 blame_origins.B16 = true := by kernel_rfl
set_option maxHeartbeats 8000000 in
set_option maxRecDepth 100000 in
theorem blame_origins.calls (k : Nat) (A0 : Option Addr) (c0 : Nat) (l0 : List (List ByteArray)) (r : List (S43)) (w : World) (hr0 : Kd.C (Kd.slice 9 Kd.string) w A0 l0.length l0) (hc0 : l0.length ≤ c0) (h : blame_origins.f k l0 = some r) :
    Calls Try.prog 22 #[.slice A0 l0.length c0] w fun e w' => ∃ v0_ : Value, e = .returned (v0_) ∧ Kd.R k43 43 w' w.heap.size (fun _ => True) v0_ r ∧ Below w.heap.size w w' := by
  have hu43 := Try.underlying43
  have hu58 := Try.underlying58
  have HR0 := Aside0.mk hr0
  have HC0 := Aside0.mk hc0
  clear hr0 hc0
  have HB := Aside0.mk (Below.refl w.heap.size w)
  have H : (blame_origins.l0 k l0 ([] : List (S43)) l0 (l0.length : Int) 0) = some r := h
  clear h
  have H' := Aside0.mk H
  clear H
  go_enter Try.func22, Try.ntmps22
  go_wp2
  go_loopg [3, 14] k (fun kq v3 v14 w' => ∃ (x3_1 : List (S43)) (x14_1 : Int), v14 = .int .i64 x14_1 ∧ Aside0 (blame_origins.l0 kq l0 x3_1 l0 (l0.length : Int) x14_1 = some r) ∧ Aside0 (kq ≤ k) ∧ Aside0 (Kd.R k43 43 w' w.heap.size (fun _ => True) v3 x3_1) ∧ Aside0 (Below w.heap.size w w'))
  case atStart => exact ⟨(([] : List (S43))), (0), (by first | rfl | (simp; done) | (simp [*]; done)), H', ⟨Nat.le_refl _⟩, ⟨by first | exact Kd.R_nil _ _ _ _ _ | exact Kd.N_nil _ _ _ _ _ | exact Kd.V_nil _ _ _ _ _ | exact Kd.Q_nil _ _ _ _ _ | exact Kd.S_nil _ _ _ _ _⟩, ⟨by repeat (first | (with_reducible first | exact HB.out | apply below_alloc | apply pw_below_drewN | apply below_drew1) | exact HB.out)⟩⟩
  case round =>
    clear H'
    obtain ⟨x3_1, x14_1, rfl, HA, HK1, HO_3, HB⟩ := hrel
    cases gk with
    | zero => exact absurd HA.out (by simp [blame_origins.l0])
    | succ k1 =>
      have H := HA.out
      clear HA
      simp only [blame_origins.l0] at H
      by_cases c2 : x14_1 < (l0.length : Int)
      · rw [if_pos c2] at H
        have c2b0 : decide (x14_1 < (l0.length : Int)) = true := decide_eq_true c2
        clear c2
        by_cases c3 : 0 ≤ x14_1
        · rw [if_pos c3] at H
          have c3b0 : decide (0 ≤ x14_1) = true := decide_eq_true c3
          clear c3
          by_cases c4 : x14_1 < (l0.length : Int)
          · rw [if_pos c4] at H
            have c4b0 : decide (x14_1 < (l0.length : Int)) = true := decide_eq_true c4
            clear c4
            by_cases c5 : 0 ≤ ((rd_Lstr l0 x14_1).length : Int)
            · rw [if_pos c5] at H
              have c5b0 := eq_true c5
              have c5b1 : decide (0 ≤ ((rd_Lstr l0 x14_1).length : Int)) = true := decide_eq_true c5
              clear c5
              by_cases c6 : (((rd_Lstr l0 x14_1).length : Int) : Int).toNat ≤ 17592186044416
              · rw [if_pos c6] at H
                have c6b0 := eq_true c6
                have c6b1 : decide ((((rd_Lstr l0 x14_1).length : Int) : Int).toNat ≤ 17592186044416) = true := decide_eq_true c6
                clear c6
                obtain ⟨y160, hy160⟩ : ∃ y_ : List (S43), y_ = (List.replicate (((rd_Lstr l0 x14_1).length : Int) : Int).toNat z43) := ⟨_, rfl⟩
                replace H : (blame_origins.l1 k1 l0 x3_1 x14_1 (rd_Lstr l0 x14_1) y160 l0 (l0.length : Int) x14_1 (y160.length : Int) 0) = some r := by first | (rw [hy160]; with_reducible exact H) | (have H2_ := (Option.bind_some _ _).symm.trans H; rw [hy160]; with_reducible exact H2_) | (have H2_ := (Option.bind_some _ _).symm.trans H; with_reducible exact H2_) | with_reducible exact H | (rw [hy160]; exact H) | exact H
                have Ny160 := Aside0.mk hy160
                clear hy160
                have H' := Aside0.mk H
                clear H
                have p159 : 0 ≤ (x14_1 : Int) := of_decide_eq_true (by first | (with_reducible assumption) | assumption)
                have q159 : x14_1 < (l0.length : Int) := of_decide_eq_true (by first | (with_reducible assumption) | assumption)
                obtain ⟨ad159, A159_0, c159_0, e159, hx159_0, hl159_0, hi159_0⟩ := at_Lstr HR0.out x14_1 p159 q159
                cases e159
                replace hx159_0 := (HB.out.cell (World.block_lt_of_cell? w _ hx159_0)).trans hx159_0
                have HR159_0 := Aside0.mk hi159_0
                have HC159_0 := Aside0.mk hl159_0
                clear hi159_0 hl159_0
                replace p159 := eq_true p159
                replace q159 := eq_true q159
                go_wp2_with (first | ((with_reducible refine gate_dst (N := 21) rfl ?_); refine Kd.R_make k43 _ 43 rfl (N := 21) rfl 24 _ _ rfl ((rd_Lstr l0 x14_1).length : Int) rfl rfl Try.underlying24 (.agg #[(.int .i64 0), (.int .i64 0)]) 16 info43 rfl (by decide) (by omega) z43 (ok := fun _ => True) (okp := fun _ => True) (k43_mkM _ _ _ z43 ) (fun _ hk => hk) trivial (of_decide_eq_true (by first | (with_reducible assumption) | assumption)) (Nat.le_trans (Nat.mul_le_mul_right _ (of_decide_eq_true (by first | (with_reducible assumption) | assumption) : ((rd_Lstr l0 x14_1).length : Int).toNat ≤ 17592186044416)) (by omega)) (Below.refl _ _) (Nat.le_refl _) ?_; intro v161 w7 ho8 hb hg_ hnew_; clear hg_ hnew_; (first | rw [← Ny160.out] at ho8 | (simp only [Int.reduceToNat] at ho8; rw [← Ny160.out] at ho8)); have n0_ := Aside0.mk (Kd.R_elder' (by (with_reducible repeat (first | apply Kd.R_alloc | apply Kd.R_drewN | apply Kd.R_drew)); exact HO_3.out) (Kd.R_base ho8) hb); have n1_ := Aside0.mk (Kd.R_lower (Kd.R_new' ho8 (Kd.R_lt (by (with_reducible repeat (first | apply Kd.R_alloc | apply Kd.R_drewN | apply Kd.R_drew)); exact HO_3.out))) (below_size (by repeat (first | (with_reducible first | exact HB.out | apply below_alloc | apply pw_below_drewN | apply below_drew1) | exact HB.out)))); have n2_ := Aside0.mk (below_step (by repeat (first | (with_reducible first | exact HB.out | apply below_alloc | apply pw_below_drewN | apply below_drew1) | exact HB.out)) hb); clear HO_3; clear HB; have HO_3 := n0_; have HO162 := n1_; have HB := n2_; clear n0_ n1_ n2_; clear hb ho8; obtain ⟨Ao9, co9, eo9⟩ := Kd.R_slice HO162.out; subst eo9))
                go_loopg [24] k1 (fun kq v24 w' => ∃ (x6_2 : List (S43)) (x24_2 : Int), v24 = .int .i64 x24_2 ∧ Aside0 (blame_origins.l1 kq l0 x3_1 x14_1 (rd_Lstr l0 x14_1) x6_2 l0 (l0.length : Int) x14_1 (y160.length : Int) x24_2 = some r) ∧ Aside0 (kq ≤ k1) ∧ Aside0 (Kd.R k43 43 w' w.heap.size (fun k_ => some k_ ≠ ((.slice Ao9 y160.length co9) : Value).ownBlock) u3 x3_1) ∧ Aside0 (Kd.R k43 43 w' w.heap.size (fun k_ => some k_ ≠ (u3 : Value).ownBlock) (.slice Ao9 y160.length co9) x6_2) ∧ Aside0 (Below w.heap.size w w'))
                case atStart => exact ⟨(y160), (0), (by first | rfl | (simp; done) | (simp [*]; done)), H', ⟨Nat.le_refl _⟩, ⟨by (with_reducible repeat (first | apply Kd.R_alloc | apply Kd.R_drewN | apply Kd.R_drew)); exact Kd.R_mono HO_3.out (fun _ hk => hk.2)⟩, ⟨by (with_reducible repeat (first | apply Kd.R_alloc | apply Kd.R_drewN | apply Kd.R_drew)); exact Kd.R_mono HO162.out (fun _ hk => hk.2)⟩, ⟨by repeat (first | (with_reducible first | exact HB.out | apply below_alloc | apply pw_below_drewN | apply below_drew1) | exact HB.out)⟩⟩
                case round =>
                  clear H'
                  try clear c1
                  try clear p1
                  try clear q1
                  try clear hx1
                  try clear c2
                  try clear c2b0
                  try clear p2
                  try clear c3
                  try clear c3b0
                  try clear c4
                  try clear c4b0
                  try clear c5
                  try clear c5b0
                  try clear c5b1
                  try clear c6
                  try clear c6b0
                  try clear c6b1
                  try clear hx159_0
                  try clear p159
                  try clear q159
                  obtain ⟨x6_2, x24_2, rfl, HA, HK2, HO_3, HO_6, HB⟩ := hrel
                  have hl6_2 := (Kd.R_reads' HO_6.out).1
                  rw [hl6_2] at HO_6
                  (try simp only [hl6_2])
                  (try simp only [hl6_2] at HO_3)
                  cases gk with
                  | zero => exact absurd HA.out (by simp [blame_origins.l1])
                  | succ k2 =>
                    have H := HA.out
                    clear HA
                    simp only [blame_origins.l1] at H
                    by_cases c10 : x24_2 < (y160.length : Int)
                    · rw [if_pos c10] at H
                      have c10b0 : decide (x24_2 < (y160.length : Int)) = true := decide_eq_true c10
                      clear c10
                      by_cases c11 : 0 ≤ x24_2
                      · rw [if_pos c11] at H
                        have c11b0 : decide (0 ≤ x24_2) = true := decide_eq_true c11
                        clear c11
                        by_cases c12 : x24_2 < (x6_2.length : Int)
                        · rw [if_pos c12] at H
                          have c12b0 : decide (x24_2 < (x6_2.length : Int)) = true := decide_eq_true c12
                          clear c12
                          obtain ⟨y163, hy163⟩ : ∃ y_ : List (S43), y_ = (x6_2.set (x24_2 : Int).toNat (⟨x14_1, x24_2⟩ : S43)) := ⟨_, rfl⟩
                          replace H : (blame_origins.l1 k2 l0 x3_1 x14_1 (rd_Lstr l0 x14_1) y163 l0 (l0.length : Int) x14_1 (y160.length : Int) (wrap64 (x24_2 + 1))) = some r := by first | (rw [hy163]; with_reducible exact H) | (have H2_ := (Option.bind_some _ _).symm.trans H; rw [hy163]; with_reducible exact H2_) | (have H2_ := (Option.bind_some _ _).symm.trans H; with_reducible exact H2_) | with_reducible exact H | (rw [hy163]; exact H) | exact H
                          have Ny163 := Aside0.mk hy163
                          clear hy163
                          have H' := Aside0.mk H
                          clear H
                          have p13 : 0 ≤ (x24_2 : Int) := of_decide_eq_true (by first | (with_reducible assumption) | assumption)
                          have q13 : (x24_2 : Int) < ((x6_2.length : Int) : Int) := of_decide_eq_true (by first | (with_reducible assumption) | assumption)
                          obtain ⟨go13, co13, eo13, gb13, gl13, cl13, HG13⟩ := Kd.R_form HO_6.out (by omega)
                          (first | cases eo13 | (injection eo13 with ea_ en_ ec_; (first | subst ea_ | (injection ea_ with ea_; subst ea_)); subst ec_; clear en_))
                          have GB13 := Aside0.mk gb13
                          have GG13 := Aside0.mk HG13
                          clear gb13 gl13 HG13
                          obtain ⟨ce13, hcl13, hM13, hcc13, hfr13⟩ := Kd.R_elem HO_6.out z43 (x24_2 : Int) p13 q13
                          obtain rfl := k43_openM hM13
                          have hx13_0 : wr.cell? ⟨go13, (x24_2 : Int).toNat * 2, none⟩ = some (.int .i64 ((rd_T43 x6_2 x24_2).f0)) := hcc13 0 _ rfl
                          have hx13_1 : wr.cell? ⟨go13, (x24_2 : Int).toNat * 2 + 1, none⟩ = some (.int .i64 ((rd_T43 x6_2 x24_2).f1)) := hcc13 1 _ rfl
                          have hf13_0 : wr.frozen? ⟨go13, (x24_2 : Int).toNat * 2, none⟩ = false := hfr13 0
                          have hf13_1 : wr.frozen? ⟨go13, (x24_2 : Int).toNat * 2 + 1, none⟩ = false := hfr13 1
                          clear hcl13 hcc13 hfr13 hM13
                          replace p13 := eq_true p13
                          replace q13 := eq_true q13
                          have HX14 := Aside0.mk (show Kd.R k43 43 wr w.heap.size (fun k_ => some k_ ≠ (u3 : Value).ownBlock) (.slice (some ⟨go13, 0, none⟩) x6_2.length co9) x6_2 from (by (with_reducible repeat (first | apply Kd.R_alloc | apply Kd.R_drewN | apply Kd.R_drew)); exact HO_6.out))
                          obtain ⟨ce14, hcl14, hM14, hcc14, hfr14⟩ := Kd.R_elem HX14.out z43 (x24_2 : Int) (of_decide_eq_true (by first | (with_reducible assumption) | assumption)) (by have h_ : (x24_2 : Int) < ((x6_2.length : Int) : Int) := of_decide_eq_true (by first | (with_reducible assumption) | assumption); first | exact h_ | (have e_ := (Kd.R_reads' HO_6.out).1; omega) | simpa using h_)
                          obtain rfl := k43_openM hM14
                          have HP14 := Kd.R_seg HX14.out (x24_2 : Int) (of_decide_eq_true (by first | (with_reducible assumption) | assumption)) (by have h_ : (x24_2 : Int) < ((x6_2.length : Int) : Int) := of_decide_eq_true (by first | (with_reducible assumption) | assumption); first | exact h_ | (have e_ := (Kd.R_reads' HO_6.out).1; omega) | simpa using h_) (seg := [.int .i64 x14_1, .int .i64 x24_2]) (j := 0) hcl14 hcc14 (show 2 ≤ 2 from by decide) (x' := (⟨x14_1, x24_2⟩ : S43)) (k43_mkM _ _ _ (⟨x14_1, x24_2⟩ : S43) ) (fun _ hk => hk)
                          have hx14_0 := hcc14 0 _ rfl
                          (try simp only [show (k43).sz = 2 from rfl, Nat.mul_one, Nat.add_zero] at hx14_0)
                          have hf14_0 := hfr14 0
                          (try simp only [show (k43).sz = 2 from rfl, Nat.mul_one, Nat.add_zero] at hf14_0)
                          have hx14_1 := hcc14 1 _ rfl
                          (try simp only [show (k43).sz = 2 from rfl, Nat.mul_one, Nat.add_zero] at hx14_1)
                          have hf14_1 := hfr14 1
                          (try simp only [show (k43).sz = 2 from rfl, Nat.mul_one, Nat.add_zero] at hf14_1)
                          clear hcl14 hcc14 hfr14 hM14
                          go_wp2_with (first | ((with_reducible refine gate_store (t := 43) (p := 32) rfl ?_); refine store_event (t := 43) (p := 32) (v := ?vo_w15) (w1 := ((wr.setCell ⟨go13, (x24_2 : Int).toNat * 2, none⟩ (.int .i64 x14_1)).setCell ⟨go13, (x24_2 : Int).toNat * 2 + 1, none⟩ (.int .i64 x24_2))) ?hg ?ho ?hn ?hr ?_; (case ho => rfl); (case hg => rfl); (case hn => rfl); (case hr => first | (go_simp; done) | (go_simp; rfl)); intro w15 hw; have hg : wr.grownBy w15 (some go13) := (by rw [hw]; exact HP14.2); have hp_ : Kd.R k43 43 w15 w.heap.size (fun k_ => some k_ ≠ (u3 : Value).ownBlock) (.slice (some ⟨go13, 0, none⟩) x6_2.length co9) y163 := (by rw [hw, Ny163.out]; exact HP14.1); clear HP14; have n0_ := Aside0.mk (Kd.R_after (v := (.slice (some ⟨go13, 0, none⟩) x6_2.length co9)) (v1 := (.slice (some ⟨go13, 0, none⟩) x6_2.length co9)) (ok := (fun _ => True)) (by (with_reducible repeat (first | apply Kd.R_alloc | apply Kd.R_drewN | apply Kd.R_drew)); exact Kd.R_mono HO_3.out (fun _ hk => ⟨trivial, hk⟩)) hg (.inl rfl)); have n1_ := Aside0.mk (hp_); have n2_ := Aside0.mk ((by rw [hw]; exact below_set (below_set (HB.out) GB13.out) GB13.out : Below w.heap.size w w15)); clear HO_3; clear HO_6; clear HB; have HO_3 := n0_; have HO_6 := n1_; have HB := n2_; clear n0_ n1_ n2_; clear hg hw hp_))
                          (try simp only [← hl6_2])
                          go_roundg k2
                          case measure => have := HK1.out; have := HK2.out; omega
                          case rel => exact ⟨(y163), (wrap64 (x24_2 + 1)), (by first | rfl | (simp; done) | (simp [*]; done)), H', ⟨by have := HK1.out; have := HK2.out; omega⟩, ⟨by (try simp only [hl6_2]); (with_reducible repeat (first | apply Kd.R_alloc | apply Kd.R_drewN | apply Kd.R_drew)); exact Kd.R_mono HO_3.out (fun _ hk => hk.2)⟩, ⟨by (try simp only [hl6_2]); (with_reducible repeat (first | apply Kd.R_alloc | apply Kd.R_drewN | apply Kd.R_drew)); exact HO_6.out⟩, ⟨by repeat (first | (with_reducible first | exact HB.out | apply below_alloc | apply pw_below_drewN | apply below_drew1) | exact HB.out)⟩⟩
                        · rw [if_neg c12] at H
                          exact absurd H (by simp)
                      · rw [if_neg c11] at H
                        exact absurd H (by simp)
                    · rw [if_neg c10] at H
                      have c10b0 : decide (x24_2 < (y160.length : Int)) = false := decide_eq_false c10
                      (try (have c10x := c10b0; rw [hl6_2] at c10x))
                      clear c10
                      by_cases c16 : x14_1 > 0
                      · rw [if_pos c16] at H
                        have c16b0 : decide (0 < x14_1) = true := decide_eq_true c16
                        clear c16
                        obtain ⟨ji17, hji17⟩ : ∃ j_ : Int, (wrap64 (x14_1 - 1)) = j_ := ⟨_, rfl⟩
                        replace H : (if 0 ≤ (ji17) then (if (ji17) < (l0.length : Int) then ((lcs_Best.f k2 (rd_Lstr l0 (ji17)) (rd_Lstr l0 x14_1)).bind fun bt165 => (blame_origins.l2 k2 l0 x3_1 x6_2 l0 (l0.length : Int) x14_1 bt165.1 (bt165.1.length : Int) 0)) else (none)) else (none)) = some r := by first | (rw [hji17] at H; exact H) | (simp only [hji17] at H ⊢; exact H)
                        have hji17w : (IntKind.i64.wrap (x14_1 - 1)) = ji17 := (i64_w _).trans hji17
                        by_cases c18 : 0 ≤ (ji17)
                        · rw [if_pos c18] at H
                          have c18b0 : decide (0 ≤ (ji17)) = true := decide_eq_true c18
                          clear c18
                          by_cases c19 : (ji17) < (l0.length : Int)
                          · rw [if_pos c19] at H
                            have c19b0 : decide ((ji17) < (l0.length : Int)) = true := decide_eq_true c19
                            clear c19
                            replace H := Option.bind_eq_some_iff.mp H
                            obtain ⟨⟨t165, t166⟩, A200, H⟩ := H
                            replace H : (blame_origins.l2 k2 l0 x3_1 x6_2 l0 (l0.length : Int) x14_1 t165 (t165.length : Int) 0) = some r := H
                            have A20 := Aside0.mk A200
                            clear A200
                            have H' := Aside0.mk H
                            clear H
                            have p164 : 0 ≤ ((ji17) : Int) := of_decide_eq_true (by first | (with_reducible assumption) | assumption)
                            have q164 : (ji17) < (l0.length : Int) := of_decide_eq_true (by first | (with_reducible assumption) | assumption)
                            obtain ⟨ad164, A164_0, c164_0, e164, hx164_0, hl164_0, hi164_0⟩ := at_Lstr HR0.out (ji17) p164 q164
                            obtain rfl : ad159 = ad164 := (by injection e164)
                            replace hx164_0 := (HB.out.cell (World.block_lt_of_cell? w _ hx164_0)).trans hx164_0
                            have HR164_0 := Aside0.mk hi164_0
                            have HC164_0 := Aside0.mk hl164_0
                            clear hi164_0 hl164_0
                            replace p164 := eq_true p164
                            replace q164 := eq_true q164
                            go_wp2_with (first | ((with_reducible refine gate_callee (f := 26) rfl ?_); refine goesL_ (some 43) rfl rfl Try.func26 (by kernel_rfl) rfl #[.slice A164_0 (rd_Lstr l0 (ji17)).length c164_0, .slice A159_0 (rd_Lstr l0 x14_1).length c159_0] rfl (by (try simp only [List.map_toArray, List.map_cons, List.map_nil]); first | done | (simp only [hji17]; rfl) | rfl | (simp only [List.length_drop, List.length_take]; rfl)) ?_; (with_reducible refine (lcs_Best.calls k2 _ _ (rd_Lstr l0 (ji17)) _ _ (rd_Lstr l0 x14_1) t165 t166 _ ?side1 ?side2 ?side3 ?side4 A20.out).mono ?_); (case side1 => repeat (first | exact (Kd.C_below HR164_0.out HB.out) | (with_reducible refine Kd.C_alloc ?_ _) | (with_reducible refine Kd.C_drewN ?_ _) | (with_reducible refine Kd.C_drew ?_))); (case side2 => exact HC164_0.out); (case side3 => repeat (first | exact (Kd.C_below HR159_0.out HB.out) | (with_reducible refine Kd.C_alloc ?_ _) | (with_reducible refine Kd.C_drewN ?_ _) | (with_reducible refine Kd.C_drew ?_))); (case side4 => exact HC159_0.out); rintro e w21 ⟨v167, rfl, ho0, hb⟩; refine ⟨_, rfl, ?_⟩; have n0_ := Aside0.mk (Kd.R_below (by (with_reducible repeat (first | apply Kd.R_alloc | apply Kd.R_drewN | apply Kd.R_drew)); exact HO_3.out) hb); have n1_ := Aside0.mk (Kd.R_below (by (with_reducible repeat (first | apply Kd.R_alloc | apply Kd.R_drewN | apply Kd.R_drew)); exact HO_6.out) hb); have n2_ := Aside0.mk (Kd.R_lower ho0 (below_size (by repeat (first | (with_reducible first | exact HB.out | apply below_alloc | apply pw_below_drewN | apply below_drew1) | exact HB.out)))); have n3_ := Aside0.mk (below_step (by repeat (first | (with_reducible first | exact HB.out | apply below_alloc | apply pw_below_drewN | apply below_drew1) | exact HB.out)) hb); clear HO_3; clear HO_6; clear HB; have HO_3 := n0_; have HO_6 := n1_; have HO168 := n2_; have HB := n3_; clear n0_ n1_ n2_ n3_; (try clear hb); (try clear hb2); (try clear hk); (try clear hi); (try clear ho0); obtain ⟨Ao22, co22, eo22⟩ := Kd.R_slice HO168.out; subst eo22))
                            go_loopg [48] k2 (fun kq v48 w' => ∃ (x6_3 : List (S43)) (x48_3 : Int), v48 = .int .i64 x48_3 ∧ Aside0 (blame_origins.l2 kq l0 x3_1 x6_3 l0 (l0.length : Int) x14_1 t165 (t165.length : Int) x48_3 = some r) ∧ Aside0 (kq ≤ k2) ∧ Aside0 (Kd.R k43 43 w' w.heap.size (fun k_ => some k_ ≠ ((.slice Ao9 x6_2.length co9) : Value).ownBlock) u3 x3_1) ∧ Aside0 (Kd.R k43 43 w' w.heap.size (fun k_ => some k_ ≠ (u3 : Value).ownBlock) (.slice Ao9 x6_2.length co9) x6_3) ∧ Aside0 (Kd.R k58 58 w' w.heap.size (fun _ => True) (.slice Ao22 t165.length co22) t165) ∧ Aside0 (Below w.heap.size w w'))
                            case atStart => exact ⟨(x6_2), (0), (by first | rfl | (simp; done) | (simp [*]; done)), H', ⟨Nat.le_refl _⟩, ⟨by (try simp only [hl6_2]); (with_reducible repeat (first | apply Kd.R_alloc | apply Kd.R_drewN | apply Kd.R_drew)); exact HO_3.out⟩, ⟨by (try simp only [hl6_2]); (with_reducible repeat (first | apply Kd.R_alloc | apply Kd.R_drewN | apply Kd.R_drew)); exact HO_6.out⟩, ⟨by (try simp only [hl6_2]); (with_reducible repeat (first | apply Kd.R_alloc | apply Kd.R_drewN | apply Kd.R_drew)); exact HO168.out⟩, ⟨by repeat (first | (with_reducible first | exact HB.out | apply below_alloc | apply pw_below_drewN | apply below_drew1) | exact HB.out)⟩⟩
                            case round =>
                              clear H'
                              try clear c1
                              try clear p1
                              try clear q1
                              try clear hx1
                              try clear hf1
                              try clear c2
                              try clear c2b0
                              try clear p2
                              try clear c3
                              try clear c3b0
                              try clear c4
                              try clear c4b0
                              try clear c5
                              try clear c5b0
                              try clear c5b1
                              try clear c6
                              try clear c6b0
                              try clear c6b1
                              try clear p6
                              try clear c10
                              try clear c10b0
                              try clear c11
                              try clear c11b0
                              try clear c12
                              try clear c12b0
                              try clear c13
                              try clear p13
                              try clear q13
                              try clear hx13
                              try clear hf13
                              try clear c14
                              try clear hx14
                              try clear hf14
                              try clear c15
                              try clear p15
                              try clear q15
                              try clear hx15
                              try clear c16
                              try clear c16b0
                              try clear p16
                              try clear q16
                              try clear hx16
                              try clear c18
                              try clear c18b0
                              try clear c19
                              try clear c19b0
                              try clear c22
                              try clear hx13_0
                              try clear hx13_1
                              try clear hx14_0
                              try clear hx14_1
                              try clear hx159_0
                              try clear hx164_0
                              try clear p1
                              try clear p13
                              try clear p159
                              try clear p164
                              try clear p2
                              try clear q1
                              try clear q13
                              try clear q159
                              try clear q164
                              obtain ⟨x6_3, x48_3, rfl, HA, HK3, HO_3, HO_6, HO_46, HB⟩ := hrel
                              have hl6_3 := (Kd.R_reads' HO_6.out).1
                              rw [hl6_3] at HO_6
                              (try simp only [hl6_3])
                              (try simp only [hl6_3] at HO_3)
                              (try simp only [hl6_3] at HO_46)
                              cases gk with
                              | zero => exact absurd HA.out (by simp [blame_origins.l2])
                              | succ k3 =>
                                have H := HA.out
                                clear HA
                                simp only [blame_origins.l2] at H
                                by_cases c23 : x48_3 < (t165.length : Int)
                                · rw [if_pos c23] at H
                                  have c23b0 : decide (x48_3 < (t165.length : Int)) = true := decide_eq_true c23
                                  clear c23
                                  by_cases c24 : 0 ≤ x48_3
                                  · rw [if_pos c24] at H
                                    have c24b0 : decide (0 ≤ x48_3) = true := decide_eq_true c24
                                    clear c24
                                    by_cases c25 : x48_3 < (t165.length : Int)
                                    · rw [if_pos c25] at H
                                      have c25b0 : decide (x48_3 < (t165.length : Int)) = true := decide_eq_true c25
                                      clear c25
                                      by_cases c26 : 0 ≤ ((rd_T58 t165 x48_3).f0)
                                      · rw [if_pos c26] at H
                                        have c26b0 : decide (0 ≤ ((rd_T58 t165 x48_3).f0)) = true := decide_eq_true c26
                                        clear c26
                                        by_cases c27 : ((rd_T58 t165 x48_3).f0) < (x3_1.length : Int)
                                        · rw [if_pos c27] at H
                                          have c27b0 : decide (((rd_T58 t165 x48_3).f0) < (x3_1.length : Int)) = true := decide_eq_true c27
                                          clear c27
                                          by_cases c28 : 0 ≤ ((rd_T58 t165 x48_3).f1)
                                          · rw [if_pos c28] at H
                                            have c28b0 : decide (0 ≤ ((rd_T58 t165 x48_3).f1)) = true := decide_eq_true c28
                                            clear c28
                                            by_cases c29 : ((rd_T58 t165 x48_3).f1) < (x6_3.length : Int)
                                            · rw [if_pos c29] at H
                                              have c29b0 : decide (((rd_T58 t165 x48_3).f1) < (x6_3.length : Int)) = true := decide_eq_true c29
                                              clear c29
                                              obtain ⟨y172, hy172⟩ : ∃ y_ : List (S43), y_ = (x6_3.set (((rd_T58 t165 x48_3).f1) : Int).toNat (⟨(rd_T43 x3_1 ((rd_T58 t165 x48_3).f0)).f0, (rd_T43 x3_1 ((rd_T58 t165 x48_3).f0)).f1⟩ : S43)) := ⟨_, rfl⟩
                                              replace H : (blame_origins.l2 k3 l0 x3_1 y172 l0 (l0.length : Int) x14_1 t165 (t165.length : Int) (wrap64 (x48_3 + 1))) = some r := by first | (rw [hy172]; with_reducible exact H) | (have H2_ := (Option.bind_some _ _).symm.trans H; rw [hy172]; with_reducible exact H2_) | (have H2_ := (Option.bind_some _ _).symm.trans H; with_reducible exact H2_) | with_reducible exact H | (rw [hy172]; exact H) | exact H
                                              have Ny172 := Aside0.mk hy172
                                              clear hy172
                                              have H' := Aside0.mk H
                                              clear H
                                              have p169 : 0 ≤ (x48_3 : Int) := of_decide_eq_true (by first | (with_reducible assumption) | assumption)
                                              have q169 : x48_3 < (t165.length : Int) := of_decide_eq_true (by first | (with_reducible assumption) | assumption)
                                              obtain ⟨ad169, e169, hx169_0, hx169_1⟩ := at_T58 (Kd.R_reads' HO_46.out).2.2 x48_3 p169 q169
                                              cases e169
                                              replace p169 := eq_true p169
                                              replace q169 := eq_true q169
                                              try go_wp2_with (first | ((with_reducible refine gate_dst (N := 11) rfl ?_); refine box_event ?hg (N := 11) ?hd (cs := #[.int .i64 0, .int .i64 0]) (t := 58) ?hr ?_; (case hd => rfl); (case hg => rfl); (case hr => first | (go_simp; done) | (go_simp; rfl)); intro gb170 hg w31 hbox hb; have n0_ := Aside0.mk (Kd.R_below (by (with_reducible repeat (first | apply Kd.R_alloc | apply Kd.R_drewN | apply Kd.R_drew)); exact HO_3.out) hb); have n1_ := Aside0.mk (Kd.R_below (by (with_reducible repeat (first | apply Kd.R_alloc | apply Kd.R_drewN | apply Kd.R_drew)); exact HO_6.out) hb); have n2_ := Aside0.mk (Kd.R_below (Kd.R_elderB (by (with_reducible repeat (first | apply Kd.R_alloc | apply Kd.R_drewN | apply Kd.R_drew)); exact HO_46.out) gb170 (Nat.le_of_eq hg.symm)) hb); have n3_ := Aside0.mk (below_step (by repeat (first | (with_reducible first | exact HB.out | apply below_alloc | apply pw_below_drewN | apply below_drew1) | exact HB.out)) hb); have n4_ := Aside0.mk (hbox); have n5_ := Aside0.mk ((by rw [hg]; exact (below_size (by repeat (first | (with_reducible first | exact HB.out | apply below_alloc | apply pw_below_drewN | apply below_drew1) | exact HB.out))) : w.heap.size ≤ gb170)); have n6_ := Aside0.mk ((by rw [hg]; exact (below_size (by repeat (first | (with_reducible first | exact HB.out | apply below_alloc | apply pw_below_drewN | apply below_drew1) | exact HB.out))) : w.heap.size ≤ gb170)); clear HO_3; clear HO_6; clear HO_46; clear HB; have HO_3 := n0_; have HO_6 := n1_; have HO_46 := n2_; have HB := n3_; have BK170 := n4_; have GW170 := n5_; have GE170 := n6_; clear n0_ n1_ n2_ n3_ n4_ n5_ n6_; clear hb hbox hg; have hcz32_0 : w31.cell? ⟨gb170, 0, none⟩ = some (.int .i64 0) := (blk_cell BK170.out 0).trans rfl; have hcz32_1 : w31.cell? ⟨gb170, 1, none⟩ = some (.int .i64 0) := (blk_cell BK170.out 1).trans rfl; have hfz32_0 := blk_frozen BK170.out 0; have hfz32_1 := blk_frozen BK170.out 1))
                                              have n0_ : Aside0 (Kd.R k43 43 ((w31.setCell ⟨gb170, 0, none⟩ (.int .i64 ((rd_T58 t165 x48_3).f0))).setCell ⟨gb170, 1, none⟩ (.int .i64 ((rd_T58 t165 x48_3).f1))) w.heap.size (fun k_ => some k_ ≠ (.slice Ao9 x6_3.length co9 : Value).ownBlock) u3 x3_1) := ⟨by (with_reducible repeat (first | apply Kd.R_alloc | apply Kd.R_drewN | apply Kd.R_drew)); exact Kd.R_mono (Kd.R_far (p := ⟨gb170, 1, none⟩) (Kd.R_far (p := ⟨gb170, 0, none⟩) (Kd.R_types HO_3.out BK170.out (by decide)) (fun _ hk => hk.2) (.int .i64 ((rd_T58 t165 x48_3).f0))) (fun _ hk => hk.2) (.int .i64 ((rd_T58 t165 x48_3).f1))) (fun _ hk => hk.1)⟩
                                              have n1_ : Aside0 (Kd.R k43 43 ((w31.setCell ⟨gb170, 0, none⟩ (.int .i64 ((rd_T58 t165 x48_3).f0))).setCell ⟨gb170, 1, none⟩ (.int .i64 ((rd_T58 t165 x48_3).f1))) w.heap.size (fun k_ => some k_ ≠ (u3 : Value).ownBlock) (.slice Ao9 x6_3.length co9) x6_3) := ⟨by (with_reducible repeat (first | apply Kd.R_alloc | apply Kd.R_drewN | apply Kd.R_drew)); exact Kd.R_mono (Kd.R_far (p := ⟨gb170, 1, none⟩) (Kd.R_far (p := ⟨gb170, 0, none⟩) (Kd.R_types HO_6.out BK170.out (by decide)) (fun _ hk => hk.2) (.int .i64 ((rd_T58 t165 x48_3).f0))) (fun _ hk => hk.2) (.int .i64 ((rd_T58 t165 x48_3).f1))) (fun _ hk => hk.1)⟩
                                              have n2_ : Aside0 (Kd.R k58 58 ((w31.setCell ⟨gb170, 0, none⟩ (.int .i64 ((rd_T58 t165 x48_3).f0))).setCell ⟨gb170, 1, none⟩ (.int .i64 ((rd_T58 t165 x48_3).f1))) w.heap.size (fun k_ => k_ ≠ gb170) (.slice (some ad169) t165.length co22) t165) := ⟨by (with_reducible repeat (first | apply Kd.R_alloc | apply Kd.R_drewN | apply Kd.R_drew)); exact Kd.R_mono (Kd.R_far (p := ⟨gb170, 1, none⟩) (Kd.R_far (p := ⟨gb170, 0, none⟩) (Kd.R_mono HO_46.out (fun k_ hk => (⟨hk, hk.2⟩ : _ ∧ k_ ≠ gb170))) (fun _ hk => hk.2) (.int .i64 ((rd_T58 t165 x48_3).f0))) (fun _ hk => hk.2) (.int .i64 ((rd_T58 t165 x48_3).f1))) (fun _ hk => hk.1.2)⟩
                                              have n3_ : Aside0 (((w31.setCell ⟨gb170, 0, none⟩ (.int .i64 ((rd_T58 t165 x48_3).f0))).setCell ⟨gb170, 1, none⟩ (.int .i64 ((rd_T58 t165 x48_3).f1))).heap[gb170]? = some (.cells #[.int .i64 ((rd_T58 t165 x48_3).f0), .int .i64 ((rd_T58 t165 x48_3).f1)] 58 (0, 0))) := ⟨by (with_reducible repeat (first | refine blk_drewN ?_ _ | refine blk_drew ?_ | refine blk_alloc ?_ _)); refine blk_put (cs := #[.int .i64 ((rd_T58 t165 x48_3).f0), .int .i64 0]) ?_ 1 _ rfl; (with_reducible repeat (first | refine blk_drewN ?_ _ | refine blk_drew ?_ | refine blk_alloc ?_ _)); refine blk_put (cs := #[.int .i64 0, .int .i64 0]) ?_ 0 _ rfl; (with_reducible repeat (first | refine blk_drewN ?_ _ | refine blk_drew ?_ | refine blk_alloc ?_ _)); exact BK170.out⟩
                                              have n4_ : Aside0 (Below w.heap.size w ((w31.setCell ⟨gb170, 0, none⟩ (.int .i64 ((rd_T58 t165 x48_3).f0))).setCell ⟨gb170, 1, none⟩ (.int .i64 ((rd_T58 t165 x48_3).f1)))) := ⟨by repeat (first | (with_reducible first | exact HB.out | apply below_alloc | apply pw_below_drewN | apply below_drew1 | refine below_set ?_ GE170.out) | exact HB.out)⟩
                                              (try clear HO_3)
                                              (try clear HO_6)
                                              (try clear HO_46)
                                              (try clear BK170)
                                              (try clear HB)
                                              generalize ((w31.setCell ⟨gb170, 0, none⟩ (.int .i64 ((rd_T58 t165 x48_3).f0))).setCell ⟨gb170, 1, none⟩ (.int .i64 ((rd_T58 t165 x48_3).f1))) = w33 at n0_ n1_ n2_ n3_ n4_ ⊢
                                              have HO_3 := n0_
                                              have HO_6 := n1_
                                              have HO_46 := n2_
                                              have BK170 := n3_
                                              have HB := n4_
                                              clear n0_ n1_ n2_ n3_ n4_
                                              have n0_ := Aside0.mk (Kd.R_drew HO_3.out)
                                              have n1_ := Aside0.mk (Kd.R_drew HO_6.out)
                                              have n2_ := Aside0.mk (Kd.R_drew HO_46.out)
                                              have n3_ := Aside0.mk (blk_drew BK170.out)
                                              have n4_ := Aside0.mk (below_drew1 HB.out)
                                              clear HO_3
                                              clear HO_6
                                              clear HO_46
                                              clear BK170
                                              clear HB
                                              have HO_3 := n0_
                                              have HO_6 := n1_
                                              have HO_46 := n2_
                                              have BK170 := n3_
                                              have HB := n4_
                                              clear n0_ n1_ n2_ n3_ n4_
                                              obtain ⟨Ao35, co35, eo35⟩ := Kd.R_slice HO_3.out
                                              (first | subst eo35 | (injection eo35 with f1_ f2_ f3_; have f4_ := f1_.symm; have f5_ := f3_.symm; clear f1_ f2_ f3_; subst f4_; subst f5_))
                                              have p171 : 0 ≤ (((rd_T58 t165 x48_3).f0) : Int) := of_decide_eq_true (by first | (with_reducible assumption) | assumption)
                                              have q171 : ((rd_T58 t165 x48_3).f0) < (x3_1.length : Int) := of_decide_eq_true (by first | (with_reducible assumption) | assumption)
                                              obtain ⟨ad171, e171, hx171_0, hx171_1⟩ := at_T43 (Kd.R_reads' HO_3.out).2.2 ((rd_T58 t165 x48_3).f0) p171 q171
                                              cases e171
                                              replace p171 := eq_true p171
                                              replace q171 := eq_true q171
                                              have p30 : 0 ≤ (((rd_T58 t165 x48_3).f1) : Int) := of_decide_eq_true (by first | (with_reducible assumption) | assumption)
                                              have q30 : (((rd_T58 t165 x48_3).f1) : Int) < ((x6_3.length : Int) : Int) := of_decide_eq_true (by first | (with_reducible assumption) | assumption)
                                              obtain ⟨go30, co30, eo30, gb30, gl30, cl30, HG30⟩ := Kd.R_form HO_6.out (by omega)
                                              (first | cases eo30 | (injection eo30 with ea_ en_ ec_; (first | subst ea_ | (injection ea_ with ea_; subst ea_)); subst ec_; clear en_))
                                              have GB30 := Aside0.mk gb30
                                              have GG30 := Aside0.mk HG30
                                              clear gb30 gl30 HG30
                                              obtain ⟨ce30, hcl30, hM30, hcc30, hfr30⟩ := Kd.R_elem HO_6.out z43 (((rd_T58 t165 x48_3).f1) : Int) p30 q30
                                              obtain rfl := k43_openM hM30
                                              have hx30_0 : World.cell? _ ⟨go30, (((rd_T58 t165 x48_3).f1) : Int).toNat * 2, none⟩ = some (.int .i64 ((rd_T43 x6_3 ((rd_T58 t165 x48_3).f1)).f0)) := hcc30 0 _ rfl
                                              have hx30_1 : World.cell? _ ⟨go30, (((rd_T58 t165 x48_3).f1) : Int).toNat * 2 + 1, none⟩ = some (.int .i64 ((rd_T43 x6_3 ((rd_T58 t165 x48_3).f1)).f1)) := hcc30 1 _ rfl
                                              have hf30_0 : World.frozen? _ ⟨go30, (((rd_T58 t165 x48_3).f1) : Int).toNat * 2, none⟩ = false := hfr30 0
                                              have hf30_1 : World.frozen? _ ⟨go30, (((rd_T58 t165 x48_3).f1) : Int).toNat * 2 + 1, none⟩ = false := hfr30 1
                                              clear hcl30 hcc30 hfr30 hM30
                                              replace p30 := eq_true p30
                                              replace q30 := eq_true q30
                                              obtain ⟨ce36, hcl36, hM36, hcc36, hfr36⟩ := Kd.R_elem HO_6.out z43 (((rd_T58 t165 x48_3).f1) : Int) (of_decide_eq_true (by first | (with_reducible assumption) | assumption)) (by have h_ : (((rd_T58 t165 x48_3).f1) : Int) < ((x6_3.length : Int) : Int) := of_decide_eq_true (by first | (with_reducible assumption) | assumption); first | exact h_ | (have e_ := (Kd.R_reads' HO_6.out).1; omega) | simpa using h_)
                                              obtain rfl := k43_openM hM36
                                              have HP36 := (Kd.R_seg HO_6.out (((rd_T58 t165 x48_3).f1) : Int) (of_decide_eq_true (by first | (with_reducible assumption) | assumption)) (by have h_ : (((rd_T58 t165 x48_3).f1) : Int) < ((x6_3.length : Int) : Int) := of_decide_eq_true (by first | (with_reducible assumption) | assumption); first | exact h_ | (have e_ := (Kd.R_reads' HO_6.out).1; omega) | simpa using h_) (seg := [.int .i64 ((rd_T43 x3_1 ((rd_T58 t165 x48_3).f0)).f0), .int .i64 ((rd_T43 x3_1 ((rd_T58 t165 x48_3).f0)).f1)]) (j := 0) hcl36 hcc36 (show 2 ≤ 2 from by decide) (x' := (⟨(rd_T43 x3_1 ((rd_T58 t165 x48_3).f0)).f0, (rd_T43 x3_1 ((rd_T58 t165 x48_3).f0)).f1⟩ : S43)) (k43_mkM _ _ _ (⟨(rd_T43 x3_1 ((rd_T58 t165 x48_3).f0)).f0, (rd_T43 x3_1 ((rd_T58 t165 x48_3).f0)).f1⟩ : S43) ) (fun _ hk => hk)).1
                                              rw [← Ny172.out] at HP36
                                              have HQ36 := Aside0.mk HP36
                                              clear hcl36 hcc36 hfr36 hM36 HP36
                                              refine start_ (n := 10) (S := fun w' => w'.cell? ⟨gb170, 0, none⟩ = some (.int .i64 ((rd_T58 t165 x48_3).f0)) ∧ w'.cell? ⟨gb170, 1, none⟩ = some (.int .i64 ((rd_T58 t165 x48_3).f1)) ∧ w'.cell? (ad171.add ((((rd_T58 t165 x48_3).f0)).toNat * 2)) = some (.int .i64 ((rd_T43 x3_1 ((rd_T58 t165 x48_3).f0)).f0)) ∧ w'.cell? ⟨(ad171.add ((((rd_T58 t165 x48_3).f0)).toNat * 2)).block, (ad171.add ((((rd_T58 t165 x48_3).f0)).toNat * 2)).off + 1, none⟩ = some (.int .i64 ((rd_T43 x3_1 ((rd_T58 t165 x48_3).f0)).f1))) (ds := [9]) #[false, false, false, false, false, false, false, false, false, false] (by kernel_rfl) rfl rfl ⟨(blk_cell BK170.out 0).trans rfl, (blk_cell BK170.out 1).trans rfl, hx171_0, hx171_1⟩ (fun hHeld => ?_); refine with_tabW blame_origins.tab16 blame_origins.bits16 (fun HT_ HW_ => ?_)
                                              generalize w33.drew = w34 at HO_3 HO_6 HO_46 BK170 HB GG30 HQ36 hf30_0 hf30_1 hx171_0 hx171_1 hx30_0 hx30_1 hHeld ⊢
                                              refine pure_ (i := 0) (N := some 52) (v := ?_) (a' := ?_) #[true, false, false, false, false, false, false, false, false, false] rfl rfl (any_of HT_.out (by kernel_rfl)) (fun _ _ _ h => h) (Or.inl ⟨by rfl, ?_⟩) ?_ ?_
                                              rotate_left
                                              · intro w'
                                                go_simp
                                                with_reducible rfl
                                              rotate_left
                                              · simp only [Act.put, List.setIfInBounds_toArray, List.set_cons_zero, List.set_cons_succ, i64_w, i32_w]
                                                rfl
                                              refine pure_ (i := 1) (N := some 53) (v := ?_) (a' := ?_) #[true, true, false, false, false, false, false, false, false, false] rfl rfl (any_of HT_.out (by kernel_rfl)) (fun _ _ _ h => h) (Or.inl ⟨by rfl, ?_⟩) ?_ ?_
                                              rotate_left
                                              · intro w'
                                                go_simp
                                                with_reducible rfl
                                              rotate_left
                                              · simp only [Act.put, List.setIfInBounds_toArray, List.set_cons_zero, List.set_cons_succ, i64_w, i32_w]
                                                rfl
                                              refine pure_ (i := 3) (N := some 55) (v := ?_) (a' := ?_) #[true, true, false, true, false, false, false, false, false, false] rfl rfl (any_of HT_.out (by kernel_rfl)) (fun _ _ _ h => h) (Or.inl ⟨by rfl, ?_⟩) ?_ ?_
                                              rotate_left
                                              · intro w'
                                                go_simp
                                                with_reducible rfl
                                              rotate_left
                                              · simp only [Act.put, List.setIfInBounds_toArray, List.set_cons_zero, List.set_cons_succ, i64_w, i32_w]
                                                rfl
                                              refine pure_ (i := 4) (N := some 56) (v := ?_) (a' := ?_) #[true, true, false, true, true, false, false, false, false, false] rfl rfl (any_of HT_.out (by kernel_rfl)) (fun _ _ _ h => h) (Or.inl ⟨by rfl, ?_⟩) ?_ ?_
                                              rotate_left
                                              · intro w'
                                                go_simp
                                                with_reducible rfl
                                              rotate_left
                                              · simp only [Act.put, List.setIfInBounds_toArray, List.set_cons_zero, List.set_cons_succ, i64_w, i32_w]
                                                rfl
                                              refine take_ (i := 2) (N := some 54) (v := ?_) (a' := ?_) #[true, true, true, true, true, false, false, false, false, false] rfl rfl (take_ofW HT_.out HW_.out (by kernel_rfl)) (fun _ _ _ h => h) (Or.inl ⟨by rfl, ?_⟩) hHeld ?_ ?_
                                              rotate_left
                                              · rintro w' ⟨s0, s1, s2, s3⟩
                                                go_simp
                                                with_reducible rfl
                                              rotate_left
                                              · simp only [Act.put, List.setIfInBounds_toArray, List.set_cons_zero, List.set_cons_succ, i64_w, i32_w]
                                                rfl
                                              refine take_ (i := 5) (N := some 57) (v := ?_) (a' := ?_) #[true, true, true, true, true, true, false, false, false, false] rfl rfl (take_ofW HT_.out HW_.out (by kernel_rfl)) (fun _ _ _ h => h) (Or.inl ⟨by rfl, ?_⟩) hHeld ?_ ?_
                                              rotate_left
                                              · rintro w' ⟨s0, s1, s2, s3⟩
                                                go_simp
                                                with_reducible rfl
                                              rotate_left
                                              · simp only [Act.put, List.setIfInBounds_toArray, List.set_cons_zero, List.set_cons_succ, i64_w, i32_w]
                                                rfl
                                              refine pure_ (i := 6) (N := some 58) (v := ?_) (a' := ?_) #[true, true, true, true, true, true, true, false, false, false] rfl rfl (any_of HT_.out (by kernel_rfl)) (fun _ _ _ h => h) (Or.inl ⟨by rfl, ?_⟩) ?_ ?_
                                              rotate_left
                                              · intro w'
                                                go_simp
                                                with_reducible rfl
                                              rotate_left
                                              · simp only [Act.put, List.setIfInBounds_toArray, List.set_cons_zero, List.set_cons_succ, i64_w, i32_w]
                                                rfl
                                              refine take_ (i := 7) (N := some 59) (v := ?_) (a' := ?_) #[true, true, true, true, true, true, true, true, false, false] rfl rfl (take_ofW HT_.out HW_.out (by kernel_rfl)) (fun _ _ _ h => h) (Or.inl ⟨by rfl, ?_⟩) hHeld ?_ ?_
                                              rotate_left
                                              · rintro w' ⟨s0, s1, s2, s3⟩
                                                go_simp
                                                with_reducible rfl
                                              rotate_left
                                              · simp only [Act.put, List.setIfInBounds_toArray, List.set_cons_zero, List.set_cons_succ, i64_w, i32_w]
                                                rfl
                                              refine pure_ (i := 8) (N := some 60) (v := ?_) (a' := ?_) #[true, true, true, true, true, true, true, true, true, false] rfl rfl (any_of HT_.out (by kernel_rfl)) (fun _ _ _ h => h) (Or.inl ⟨by rfl, ?_⟩) ?_ ?_
                                              rotate_left
                                              · intro w'
                                                go_simp
                                                with_reducible rfl
                                              rotate_left
                                              · simp only [Act.put, List.setIfInBounds_toArray, List.set_cons_zero, List.set_cons_succ, i64_w, i32_w]
                                                rfl
                                              refine last_ (i := 9) (N := none) #[true, true, true, true, true, true, true, true, true, true] rfl rfl (one_of HT_.out (by kernel_rfl)) (by decide) (fun K hK => ?_)
                                              refine skip_ (w1 := ?_) (by rfl) rfl ?_ ?_
                                              rotate_left
                                              · go_simp
                                                rfl
                                              refine hK.out _ _ ?_
                                              clear hK K
                                              refine done_ (done_of HT_.out (by kernel_rfl)) ?_
                                              try go_wp2
                                              (try simp only [← hl6_3])
                                              go_roundg k3
                                              case measure => have := HK1.out; have := HK2.out; have := HK3.out; omega
                                              case rel => exact ⟨(y172), (wrap64 (x48_3 + 1)), (by first | rfl | (simp; done) | (simp [*]; done)), H', ⟨by have := HK1.out; have := HK2.out; have := HK3.out; omega⟩, ⟨by (try simp only [hl6_2]); (try simp only [hl6_3]); (with_reducible repeat (first | apply Kd.R_alloc | apply Kd.R_drewN | apply Kd.R_drew)); exact Kd.R_mono (Kd.R_far (p := ⟨go30, (((rd_T58 t165 x48_3).f1) : Int).toNat * 2 + 1, none⟩) (Kd.R_far (p := ⟨go30, (((rd_T58 t165 x48_3).f1) : Int).toNat * 2, none⟩) (Kd.R_mono HO_3.out (fun k_ hk => (⟨hk, fun e_ => hk (by rw [e_]; rfl)⟩ : _ ∧ k_ ≠ go30))) (fun _ hk => hk.2) (.int .i64 ((rd_T43 x3_1 ((rd_T58 t165 x48_3).f0)).f0))) (fun _ hk => hk.2) (.int .i64 ((rd_T43 x3_1 ((rd_T58 t165 x48_3).f0)).f1))) (fun _ hk => hk.1)⟩, ⟨by (try simp only [hl6_2]); (try simp only [hl6_3]); (with_reducible repeat (first | apply Kd.R_alloc | apply Kd.R_drewN | apply Kd.R_drew)); exact HQ36.out⟩, ⟨by (try simp only [hl6_2]); (try simp only [hl6_3]); (with_reducible repeat (first | apply Kd.R_alloc | apply Kd.R_drewN | apply Kd.R_drew)); exact Kd.R_mono (Kd.R_far (p := ⟨go30, (((rd_T58 t165 x48_3).f1) : Int).toNat * 2 + 1, none⟩) (Kd.R_far (p := ⟨go30, (((rd_T58 t165 x48_3).f1) : Int).toNat * 2, none⟩) (Kd.R_types HO_46.out GG30.out (by decide)) (fun _ hk => hk.2) (.int .i64 ((rd_T43 x3_1 ((rd_T58 t165 x48_3).f0)).f0))) (fun _ hk => hk.2) (.int .i64 ((rd_T43 x3_1 ((rd_T58 t165 x48_3).f0)).f1))) (fun _ hk => trivial)⟩, ⟨by repeat (first | (with_reducible first | exact HB.out | apply below_alloc | apply pw_below_drewN | apply below_drew1 | refine below_set ?_ GB30.out | refine below_set ?_ GB30.out | refine below_set ?_ GE170.out) | exact HB.out)⟩⟩
                                            · rw [if_neg c29] at H
                                              exact absurd H (by simp)
                                          · rw [if_neg c28] at H
                                            exact absurd H (by simp)
                                        · rw [if_neg c27] at H
                                          exact absurd H (by simp)
                                      · rw [if_neg c26] at H
                                        exact absurd H (by simp)
                                    · rw [if_neg c25] at H
                                      exact absurd H (by simp)
                                  · rw [if_neg c24] at H
                                    exact absurd H (by simp)
                                · rw [if_neg c23] at H
                                  have c23b0 : decide (x48_3 < (t165.length : Int)) = false := decide_eq_false c23
                                  (try (have c23x := c23b0; rw [hl6_2] at c23x))
                                  (try (have c23x := c23b0; rw [hl6_3] at c23x))
                                  clear c23
                                  have H' := Aside0.mk H
                                  clear H
                                  go_wp2
                                  (try simp only [← hl6_2, ← hl6_3])
                                  go_roundg k3
                                  case measure => have := HK1.out; have := HK2.out; have := HK3.out; omega
                                  case rel => exact ⟨(x6_3), (wrap64 (x14_1 + 1)), (by first | rfl | (simp; done) | (simp [*]; done)), H', ⟨by have := HK1.out; have := HK2.out; have := HK3.out; omega⟩, ⟨by (try simp only [hl6_2]); (try simp only [hl6_3]); (with_reducible repeat (first | apply Kd.R_alloc | apply Kd.R_drewN | apply Kd.R_drew)); exact Kd.R_mono HO_6.out (fun _ hk => trivial)⟩, ⟨by repeat (first | (with_reducible first | exact HB.out | apply below_alloc | apply pw_below_drewN | apply below_drew1) | exact HB.out)⟩⟩
                          · rw [if_neg c19] at H
                            exact absurd H (by simp)
                        · rw [if_neg c18] at H
                          exact absurd H (by simp)
                      · rw [if_neg c16] at H
                        have c16b0 : decide (0 < x14_1) = false := decide_eq_false c16
                        clear c16
                        have H' := Aside0.mk H
                        clear H
                        go_wp2
                        (try simp only [← hl6_2])
                        go_roundg k2
                        case measure => have := HK1.out; have := HK2.out; omega
                        case rel => exact ⟨(x6_2), (wrap64 (x14_1 + 1)), (by first | rfl | (simp; done) | (simp [*]; done)), H', ⟨by have := HK1.out; have := HK2.out; omega⟩, ⟨by (try simp only [hl6_2]); (with_reducible repeat (first | apply Kd.R_alloc | apply Kd.R_drewN | apply Kd.R_drew)); exact Kd.R_mono HO_6.out (fun _ hk => trivial)⟩, ⟨by repeat (first | (with_reducible first | exact HB.out | apply below_alloc | apply pw_below_drewN | apply below_drew1) | exact HB.out)⟩⟩
              · rw [if_neg c6] at H
                exact absurd H (by simp)
            · rw [if_neg c5] at H
              exact absurd H (by simp)
          · rw [if_neg c4] at H
            exact absurd H (by simp)
        · rw [if_neg c3] at H
          exact absurd H (by simp)
      · rw [if_neg c2] at H
        have c2b0 : decide (x14_1 < (l0.length : Int)) = false := decide_eq_false c2
        (try (have c2x := c2b0; rw [hl6_2] at c2x))
        (try (have c2x := c2b0; rw [hl6_3] at c2x))
        clear c2
        obtain rfl := Option.some.inj H
        go_wp2
        go_ret
        exact ⟨_, by first | rfl | (simp [errW_none, errW_some] <;> rfl) | (simp [*, errW_none, errW_some] <;> rfl), by (with_reducible repeat (first | apply Kd.R_alloc | apply Kd.R_drewN | apply Kd.R_drew)); exact HO_3.out, by repeat (first | (with_reducible first | exact HB.out | apply below_alloc | apply pw_below_drewN | apply below_drew1) | exact HB.out)⟩

end Go.Proofs.Ytaifdgfegloafaa.Pr
