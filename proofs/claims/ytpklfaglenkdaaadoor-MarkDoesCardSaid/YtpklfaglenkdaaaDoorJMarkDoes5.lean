/- Part 5 of the proof of MarkDoes: texts put together. -/
import Derived.Test.YtpklfaglenkdaaaDoorJMarkDoes4
set_option linter.unusedVariables false
set_option linter.unusedSimpArgs false
section
namespace Go.Proofs.YtpklfaglenkdaaaDoor.Pr
open Go.RowKit Go.Proofs.YtpklfaglenkdaaaDoorW.PrintWords Go.Proofs.YtpklfaglenkdaaaDoorW.PrintLast Go.Proofs.YtpklfaglenkdaaaDoorW.PrintMore
attribute [local go_sem] max2_int min2_int max_two min_two max_three min_three max_four min_four   
def sidingref13_Parts.l0 : Nat → List Int → List ByteArray → Int → Int → Option (List ByteArray)
  | 0, _, _, _, _ => none
  | k + 1, x0, x3, x4, x5 => if x5 < (x0.length : Int) then (if 0 ≤ x5 then (if (rd x0 x5) = 10 then (if 0 ≤ x4 then (if x4 ≤ x5 then (if x5 ≤ (x0.length : Int) then (if 0 ≤ (wrap64 ((x3.length : Int) - 1)) then (if (wrap64 ((x3.length : Int) - 1)) < (x3.length : Int) then ((some (x3.set ((wrap64 ((x3.length : Int) - 1)) : Int).toNat (strOfNums ((x0.take (x5 : Int).toNat).drop (x4 : Int).toNat)) : List ByteArray)).bind fun y392 => (if y392.length < 8796093022208 then (sidingref13_Parts.l0 k x0 (y392 ++ [(⟨#[]⟩ : ByteArray)]) (wrap64 (x5 + 1)) (wrap64 (x5 + 1))) else (none))) else (none)) else (none)) else (none)) else (none)) else (none)) else (sidingref13_Parts.l0 k x0 x3 x4 (wrap64 (x5 + 1)))) else (none)) else (if 0 ≤ x4 then (if x4 ≤ (x0.length : Int) then (if 0 ≤ (wrap64 ((x3.length : Int) - 1)) then (if (wrap64 ((x3.length : Int) - 1)) < (x3.length : Int) then (some (x3.set ((wrap64 ((x3.length : Int) - 1)) : Int).toNat (strOfNums (x0.drop (x4 : Int).toNat)))) else (none)) else (none)) else (none)) else (none))
def sidingref13_Parts.f (k : Nat) (l0 : List Int) : Option (List ByteArray) := sidingref13_Parts.l0 k l0 (([(⟨#[]⟩ : ByteArray)] : List ByteArray)) 0 0
set_option maxHeartbeats 8000000 in
set_option maxRecDepth 100000 in
theorem sidingref13_Parts.calls (k : Nat) (A0 : Option Addr) (c0 : Nat) (l0 : List Int) (r : List ByteArray) (w : World) (hr0 : Kd.C (Kd.int .u8) w A0 l0.length l0) (hc0 : l0.length ≤ c0) (h : sidingref13_Parts.f k l0 = some r) :
  Calls Tryd.prog 46 #[.slice A0 l0.length c0] w fun e w' => ∃ v0_ : Value, e = .returned (v0_) ∧ Kd.R Kd.string 9 w' w.heap.size (fun _ => True) v0_ r ∧ Below w.heap.size w w' := by
 have HR0 := Aside0.mk hr0
 have HC0 := Aside0.mk hc0
 clear hr0 hc0
 have HB := Aside0.mk (Below.refl w.heap.size w)
 have H : (sidingref13_Parts.l0 k l0 (([(⟨#[]⟩ : ByteArray)] : List ByteArray)) 0 0) = some r := h
 clear h
 obtain ⟨y387, hy387⟩ : ∃ y_ : List ByteArray, y_ = (([(⟨#[]⟩ : ByteArray)] : List ByteArray)) := ⟨_, rfl⟩
 replace H : (sidingref13_Parts.l0 k l0 y387 0 0) = some r := by first | (rw [hy387]; with_reducible exact H) | (have H2_ := (Option.bind_some _ _).symm.trans H; rw [hy387]; with_reducible exact H2_) | (have H2_ := (Option.bind_some _ _).symm.trans H; with_reducible exact H2_) | with_reducible exact H | (rw [hy387]; exact H) | exact H
 have Ny387 := Aside0.mk hy387
 clear hy387
 have H' := Aside0.mk H
 clear H
 go_enter Tryd.func46, Tryd.ntmps46
 go_wp2_with (first | ((with_reducible refine gate_dst (N := 6) rfl ?_); refine Kd.R_lit Kd.string _ 9 ?hg (N := 6) ?hd (xs := ([(⟨#[]⟩ : ByteArray)] : List ByteArray)) (inner := [.string (⟨#[]⟩ : ByteArray)]) (ok := fun _ => True) (okp := fun _ => True) ?hr ?hp (fun _ hk => hk) trivial (Below.refl _ _) (Nat.le_refl _) (by simp) ?_; (case hd => rfl); (case hg => rfl); (case hr => first | (go_simp; done) | (go_simp; rfl)); (case hp => exact (Reps.one (show Kd.M Kd.string _ _ _ (⟨#[]⟩ : ByteArray) [.string (⟨#[]⟩ : ByteArray)] from rfl) (Reps.none _ _))); intro v388 w2 ho3 hb hg_ hnew_; clear hg_ hnew_; (first | rw [← Ny387.out] at ho3 | (simp only [Int.reduceToNat] at ho3; rw [← Ny387.out] at ho3)); have n0_ := Aside0.mk (Kd.R_lower ho3 (below_size (by repeat (first | (with_reducible first | exact HB.out | apply below_alloc | apply pw_below_drewN | apply below_drew1) | exact HB.out)))); have n1_ := Aside0.mk (below_step (by repeat (first | (with_reducible first | exact HB.out | apply below_alloc | apply pw_below_drewN | apply below_drew1) | exact HB.out)) hb); clear HB; have HO389 := n0_; have HB := n1_; clear n0_ n1_; clear hb ho3))
 go_loopg [3, 4, 5] k (fun kq v3 v4 v5 w' => ∃ (x3_1 : List ByteArray) (x4_1 : Int) (x5_1 : Int), v4 = .int .i64 x4_1 ∧ v5 = .int .i64 x5_1 ∧ Aside0 (sidingref13_Parts.l0 kq l0 x3_1 x4_1 x5_1 = some r) ∧ Aside0 (kq ≤ k) ∧ Aside0 (Kd.R Kd.string 9 w' w.heap.size (fun _ => True) v3 x3_1) ∧ Aside0 (Below w.heap.size w w'))
 case atStart => exact ⟨(y387), (0), (0), (by first | rfl | (simp; done) | (simp [*]; done)), (by first | rfl | (simp; done) | (simp [*]; done)), H', ⟨Nat.le_refl _⟩, ⟨by (with_reducible repeat (first | apply Kd.R_alloc | apply Kd.R_drewN | apply Kd.R_drew)); exact HO389.out⟩, ⟨by repeat (first | (with_reducible first | exact HB.out | apply below_alloc | apply pw_below_drewN | apply below_drew1) | exact HB.out)⟩⟩
 case round =>
  clear H'
  try clear p2
  obtain ⟨x3_1, x4_1, x5_1, rfl, rfl, HA, HK1, HO_3, HB⟩ := hrel
  cases gk with
  | zero => exact absurd HA.out (by simp [sidingref13_Parts.l0])
  | succ k1 =>
   have H := HA.out
   clear HA
   simp only [sidingref13_Parts.l0] at H
   by_cases c4 : x5_1 < (l0.length : Int)
   ·rw [if_pos c4] at H
    have c4b0 : decide (x5_1 < (l0.length : Int)) = true := decide_eq_true c4
    clear c4
    by_cases c5 : 0 ≤ x5_1
    ·rw [if_pos c5] at H
     have c5b0 : decide (0 ≤ x5_1) = true := decide_eq_true c5
     clear c5
     by_cases c6 : (rd l0 x5_1) = 10
     ·rw [if_pos c6] at H
      have c6b0 : ((rd l0 x5_1) == 10) = true := beq_iff_eq.mpr c6
      have c6b1 : ((rd l0 x5_1) != 10) = false := bne_eq_false_iff_eq.mpr c6
      clear c6
      by_cases c7 : 0 ≤ x4_1
      ·rw [if_pos c7] at H
       have c7b0 := eq_true c7
       have c7b1 : decide (0 ≤ x4_1) = true := decide_eq_true c7
       clear c7
       by_cases c8 : x4_1 ≤ x5_1
       ·rw [if_pos c8] at H
        have c8b0 := eq_true c8
        have c8b1 : decide (x4_1 ≤ x5_1) = true := decide_eq_true c8
        clear c8
        by_cases c9 : x5_1 ≤ (l0.length : Int)
        ·rw [if_pos c9] at H
         have c9b0 := eq_true c9
         have c9b1 : decide (x5_1 ≤ (l0.length : Int)) = true := decide_eq_true c9
         (try have c9m := Aside0.mk (Nat.min_eq_left (Int.toNat_le.2 c9)))
         clear c9
         obtain ⟨ji10, hji10⟩ : ∃ j_ : Int, (wrap64 ((x3_1.length : Int) - 1)) = j_ := ⟨_, rfl⟩
         replace H : (if 0 ≤ (ji10) then (if (ji10) < (x3_1.length : Int) then ((some (x3_1.set ((ji10) : Int).toNat (strOfNums ((l0.take (x5_1 : Int).toNat).drop (x4_1 : Int).toNat)) : List ByteArray)).bind fun y392 => (if y392.length < 8796093022208 then (sidingref13_Parts.l0 k1 l0 (y392 ++ [(⟨#[]⟩ : ByteArray)]) (wrap64 (x5_1 + 1)) (wrap64 (x5_1 + 1))) else (none))) else (none)) else (none)) = some r := by first | (rw [hji10] at H; exact H) | (simp only [hji10] at H ⊢; exact H)
         have hji10w : (IntKind.i64.wrap ((x3_1.length : Int) - 1)) = ji10 := (i64_w _).trans hji10
         by_cases c11 : 0 ≤ (ji10)
         ·rw [if_pos c11] at H
          have c11b0 : decide (0 ≤ (ji10)) = true := decide_eq_true c11
          clear c11
          by_cases c12 : (ji10) < (x3_1.length : Int)
          ·rw [if_pos c12] at H
           have c12b0 : decide ((ji10) < (x3_1.length : Int)) = true := decide_eq_true c12
           clear c12
           obtain ⟨y392, hy392⟩ : ∃ y_ : List ByteArray, y_ = (x3_1.set ((ji10) : Int).toNat (strOfNums ((l0.take (x5_1 : Int).toNat).drop (x4_1 : Int).toNat))) := ⟨_, rfl⟩
           replace H : (if y392.length < 8796093022208 then (sidingref13_Parts.l0 k1 l0 (y392 ++ [(⟨#[]⟩ : ByteArray)]) (wrap64 (x5_1 + 1)) (wrap64 (x5_1 + 1))) else (none)) = some r := by first | (rw [hy392]; with_reducible exact H) | (have H2_ := (Option.bind_some _ _).symm.trans H; rw [hy392]; with_reducible exact H2_) | (have H2_ := (Option.bind_some _ _).symm.trans H; with_reducible exact H2_) | with_reducible exact H | (rw [hy392]; exact H) | exact H
           have Ny392 := Aside0.mk hy392
           clear hy392
           by_cases c14 : y392.length < 8796093022208
           ·rw [if_pos c14] at H
            have LMc14 := Aside0.mk c14
            clear c14
            obtain ⟨y393, hy393⟩ : ∃ y_ : List ByteArray, y_ = (y392 ++ [(⟨#[]⟩ : ByteArray)]) := ⟨_, rfl⟩
            replace H : (sidingref13_Parts.l0 k1 l0 y393 (wrap64 (x5_1 + 1)) (wrap64 (x5_1 + 1))) = some r := by first | (rw [hy393]; with_reducible exact H) | (have H2_ := (Option.bind_some _ _).symm.trans H; rw [hy393]; with_reducible exact H2_) | (have H2_ := (Option.bind_some _ _).symm.trans H; with_reducible exact H2_) | with_reducible exact H | (rw [hy393]; exact H) | exact H
            have Ny393 := Aside0.mk hy393
            clear hy393
            have H' := Aside0.mk H
            clear H
            have p390 : 0 ≤ (x5_1 : Int) := of_decide_eq_true (by first | (with_reducible assumption) | assumption)
            have q390 : x5_1 < (l0.length : Int) := of_decide_eq_true (by first | (with_reducible assumption) | assumption)
            obtain ⟨ad390, e390, hx390_0⟩ := Kd.at_int HR0.out x5_1 p390 q390
            cases e390
            replace hx390_0 := (HB.out.cell (World.block_lt_of_cell? w _ hx390_0)).trans hx390_0
            replace p390 := eq_true p390
            replace q390 := eq_true q390
            obtain ⟨Ao15, co15, eo15⟩ := Kd.R_slice HO_3.out
            subst eo15
            obtain ⟨i016, hi016, _, hsz16, _⟩ := info_parts info5
            obtain ⟨A16, hcut16, hA16, hC16⟩ := print_mid_of (P := Tryd.prog) (Value.int .u8) 0 24 5 .i64 .i64 Tryd.underlying24 hi016 hsz16 (some ad390) c0 l0 x4_1 x5_1 (of_decide_eq_true (by first | (with_reducible assumption) | assumption)) (by first | omega | exact of_decide_eq_true (by first | (with_reducible assumption) | assumption)) (of_decide_eq_true (by first | (with_reducible assumption) | assumption)) HC0.out
            have HR391 := Aside0.mk (Kd.C_of_reads (h1 := fun _ => rfl) (hA16 _ (Kd.reads_of_C HR0.out)))
            have HC391 := Aside0.mk hC16
            clear hA16 hC16 hi016 hsz16
            have hcv17 := Kd.C_string (P := Tryd.prog) (A := A16) (c := (c0 - x4_1.toNat)) Tryd.underlying24 Tryd.underlying5 Tryd.underlying9 (Kd.C_below HR391.out HB.out)
            (try (have hcv17b := hcv17; rw [show (List.drop (x4_1 : Int).toNat (List.take (x5_1 : Int).toNat l0)).length = (x5_1 : Int).toNat - (x4_1 : Int).toNat from by rw [List.length_drop, List.length_take, Nat.min_eq_left (by have h_ : (x5_1 : Int) ≤ (l0.length : Int) := of_decide_eq_true (by first | (with_reducible assumption) | assumption); omega)]] at hcv17b))
            have p13 : 0 ≤ ((ji10) : Int) := of_decide_eq_true (by first | (with_reducible assumption) | assumption)
            have q13 : ((ji10) : Int) < ((x3_1.length : Int) : Int) := of_decide_eq_true (by first | (with_reducible assumption) | assumption)
            obtain ⟨go13, co13, eo13, gb13, gl13, cl13, HG13⟩ := Kd.R_form HO_3.out (by omega)
            (first | cases eo13 | (injection eo13 with ea_ en_ ec_; (first | subst ea_ | (injection ea_ with ea_; subst ea_)); subst ec_; clear en_))
            have GB13 := Aside0.mk gb13
            have GG13 := Aside0.mk HG13
            clear gb13 gl13 HG13
            obtain ⟨hx13_0, hf13_0⟩ := Kd.R_celln (⟨#[]⟩ : ByteArray) HO_3.out ((ji10) : Int) p13 q13
            replace p13 := eq_true p13
            replace q13 := eq_true q13
            have HP18 := Kd.R_putg HO_3.out ((ji10) : Int) (strOfNums ((l0.take (x5_1 : Int).toNat).drop (x4_1 : Int).toNat))
            go_wp2_with (first | ((with_reducible refine gate_store (t := 9) (p := 27) rfl ?_); refine store_event (t := 9) (p := 27) (v := ?vo_w19) (w1 := (wr.setCell ⟨go13, ((ji10) : Int).toNat, none⟩ (.string (strOfNums ((l0.take (x5_1 : Int).toNat).drop (x4_1 : Int).toNat))))) ?hg ?ho ?hn ?hr ?_; (case ho => rfl); (case hg => rfl); (case hn => rfl); (case hr => first | (go_simp; done) | (go_simp; rfl)); intro w19 hw; have hg : wr.grownBy w19 (some go13) := (by rw [hw]; exact HP18.2); have hp_ : Kd.R Kd.string 9 w19 w.heap.size (fun _ => True) (.slice (some ⟨go13, 0, none⟩) x3_1.length co15) y392 := (by rw [hw, Ny392.out]; exact HP18.1); clear HP18; have n0_ := Aside0.mk (hp_); have n1_ := Aside0.mk ((by rw [hw]; exact below_set (HB.out) GB13.out : Below w.heap.size w w19)); clear HO_3; clear HB; have HO_3 := n0_; have HB := n1_; clear n0_ n1_; clear hg hw hp_) | ((with_reducible refine gate_builtin (b := .append) (xs := #[.tmp 28, .tmp 29]) rfl ?_); at_builtin; refine Kd.R_append Kd.string (w0 := w) w.heap.size rfl (.tmp 28) (.tmp 29) 23 9 (.string ⟨#[]⟩) 16 rfl Tryd.underlying23 info9 rfl (by decide) (by omega) (.slice (some ⟨go13, 0, none⟩) x3_1.length co15) y392 (⟨#[]⟩ : ByteArray) [.string (⟨#[]⟩ : ByteArray)] (fun _ => True) (fun _ => False) rfl rfl ?aP (fun _ hk => hk.elim) ?aF ?aO ?aB ?aS ?aL ?_; (case aP => exact rfl); (case aB => exact (by repeat (first | (with_reducible first | exact HB.out | apply below_alloc | apply pw_below_drewN | apply below_drew1) | exact HB.out))); (case aF => exact (fun _ _ => trivial)); (case aO => exact (by (with_reducible repeat (first | apply Kd.R_alloc | apply Kd.R_drewN | apply Kd.R_drew)); exact HO_3.out)); (case aS => exact (below_size (by repeat (first | (with_reducible first | exact HB.out | apply below_alloc | apply pw_below_drewN | apply below_drew1) | exact HB.out)))); (case aL => have := LMc14.out; omega); intro v394 w20 ho hb hg hat; rw [← Ny393.out] at ho; have n0_ := Aside0.mk (hb); have n1_ := Aside0.mk (ho); clear HB; clear HO_3; have HB := n0_; have HO395 := n1_; clear n0_ n1_; clear ho hb hg hat))
            go_roundg k1
            case measure => have := HK1.out; omega
            case rel => exact ⟨(y393), (wrap64 (x5_1 + 1)), (wrap64 (x5_1 + 1)), (by first | rfl | (simp; done) | (simp [*]; done)), (by first | rfl | (simp; done) | (simp [*]; done)), H', ⟨by have := HK1.out; omega⟩, ⟨by (with_reducible repeat (first | apply Kd.R_alloc | apply Kd.R_drewN | apply Kd.R_drew)); exact HO395.out⟩, ⟨by repeat (first | (with_reducible first | exact HB.out | apply below_alloc | apply pw_below_drewN | apply below_drew1) | exact HB.out)⟩⟩
           ·rw [if_neg c14] at H
            exact absurd H (by simp)
          ·rw [if_neg c12] at H
           exact absurd H (by simp)
         ·rw [if_neg c11] at H
          exact absurd H (by simp)
        ·rw [if_neg c9] at H
         exact absurd H (by simp)
       ·rw [if_neg c8] at H
        exact absurd H (by simp)
      ·rw [if_neg c7] at H
       exact absurd H (by simp)
     ·rw [if_neg c6] at H
      have c6b0 : ((rd l0 x5_1) == 10) = false := beq_eq_false_iff_ne.mpr c6
      have c6b1 : ((rd l0 x5_1) != 10) = true := bne_iff_ne.mpr c6
      have H' := Aside0.mk H
      clear H
      have p390 : 0 ≤ (x5_1 : Int) := of_decide_eq_true (by first | (with_reducible assumption) | assumption)
      have q390 : x5_1 < (l0.length : Int) := of_decide_eq_true (by first | (with_reducible assumption) | assumption)
      obtain ⟨ad390, e390, hx390_0⟩ := Kd.at_int HR0.out x5_1 p390 q390
      cases e390
      replace hx390_0 := (HB.out.cell (World.block_lt_of_cell? w _ hx390_0)).trans hx390_0
      replace p390 := eq_true p390
      replace q390 := eq_true q390
      go_wp2
      go_roundg k1
      case measure => have := HK1.out; omega
      case rel => exact ⟨(x3_1), (x4_1), (wrap64 (x5_1 + 1)), (by first | rfl | (simp; done) | (simp [*]; done)), (by first | rfl | (simp; done) | (simp [*]; done)), H', ⟨by have := HK1.out; omega⟩, ⟨by (with_reducible repeat (first | apply Kd.R_alloc | apply Kd.R_drewN | apply Kd.R_drew)); exact HO_3.out⟩, ⟨by repeat (first | (with_reducible first | exact HB.out | apply below_alloc | apply pw_below_drewN | apply below_drew1) | exact HB.out)⟩⟩
    ·rw [if_neg c5] at H
     exact absurd H (by simp)
   ·rw [if_neg c4] at H
    have c4b0 : decide (x5_1 < (l0.length : Int)) = false := decide_eq_false c4
    clear c4
    by_cases c21 : 0 ≤ x4_1
    ·rw [if_pos c21] at H
     have c21b0 := eq_true c21
     have c21b1 : decide (0 ≤ x4_1) = true := decide_eq_true c21
     clear c21
     by_cases c22 : x4_1 ≤ (l0.length : Int)
     ·rw [if_pos c22] at H
      have c22b0 := eq_true c22
      have c22b1 : decide (x4_1 ≤ (l0.length : Int)) = true := decide_eq_true c22
      (try have c22m := Aside0.mk (Nat.min_eq_left (Int.toNat_le.2 c22)))
      clear c22
      obtain ⟨ji23, hji23⟩ : ∃ j_ : Int, (wrap64 ((x3_1.length : Int) - 1)) = j_ := ⟨_, rfl⟩
      replace H : (if 0 ≤ (ji23) then (if (ji23) < (x3_1.length : Int) then (some (x3_1.set ((ji23) : Int).toNat (strOfNums (l0.drop (x4_1 : Int).toNat)))) else (none)) else (none)) = some r := by first | (rw [hji23] at H; exact H) | (simp only [hji23] at H ⊢; exact H)
      have hji23w : (IntKind.i64.wrap ((x3_1.length : Int) - 1)) = ji23 := (i64_w _).trans hji23
      by_cases c24 : 0 ≤ (ji23)
      ·rw [if_pos c24] at H
       have c24b0 : decide (0 ≤ (ji23)) = true := decide_eq_true c24
       clear c24
       by_cases c25 : (ji23) < (x3_1.length : Int)
       ·rw [if_pos c25] at H
        have c25b0 : decide ((ji23) < (x3_1.length : Int)) = true := decide_eq_true c25
        clear c25
        obtain ⟨y397, hy397⟩ : ∃ y_ : List ByteArray, y_ = (x3_1.set ((ji23) : Int).toNat (strOfNums (l0.drop (x4_1 : Int).toNat))) := ⟨_, rfl⟩
        replace H : (some y397) = some r := by first | (rw [hy397]; with_reducible exact H) | (have H2_ := (Option.bind_some _ _).symm.trans H; rw [hy397]; with_reducible exact H2_) | (have H2_ := (Option.bind_some _ _).symm.trans H; with_reducible exact H2_) | with_reducible exact H | (rw [hy397]; exact H) | exact H
        have Ny397 := Aside0.mk hy397
        clear hy397
        obtain rfl := Option.some.inj H
        obtain ⟨Ao27, co27, eo27⟩ := Kd.R_slice HO_3.out
        subst eo27
        obtain ⟨i028, hi028, _, hsz28, _⟩ := info_parts info5
        obtain ⟨A28, hcut28, hA28, hC28⟩ := print_drop_of (P := Tryd.prog) (Value.int .u8) 0 24 5 .i64 Tryd.underlying24 hi028 hsz28 A0 c0 l0 x4_1 (of_decide_eq_true (by first | (with_reducible assumption) | assumption)) (of_decide_eq_true (by first | (with_reducible assumption) | assumption)) HC0.out
        have HR396 := Aside0.mk (Kd.C_of_reads (h1 := fun _ => rfl) (hA28 _ (Kd.reads_of_C HR0.out)))
        have HC396 := Aside0.mk hC28
        clear hA28 hC28 hi028 hsz28
        have hcv29 := Kd.C_string (P := Tryd.prog) (A := A28) (c := (c0 - x4_1.toNat)) Tryd.underlying24 Tryd.underlying5 Tryd.underlying9 (Kd.C_below HR396.out HB.out)
        (try (have hcv29b := hcv29; rw [show (List.drop (x4_1 : Int).toNat l0).length = l0.length - (x4_1 : Int).toNat from List.length_drop] at hcv29b))
        have p26 : 0 ≤ ((ji23) : Int) := of_decide_eq_true (by first | (with_reducible assumption) | assumption)
        have q26 : ((ji23) : Int) < ((x3_1.length : Int) : Int) := of_decide_eq_true (by first | (with_reducible assumption) | assumption)
        obtain ⟨go26, co26, eo26, gb26, gl26, cl26, HG26⟩ := Kd.R_form HO_3.out (by omega)
        (first | cases eo26 | (injection eo26 with ea_ en_ ec_; (first | subst ea_ | (injection ea_ with ea_; subst ea_)); subst ec_; clear en_))
        have GB26 := Aside0.mk gb26
        have GG26 := Aside0.mk HG26
        clear gb26 gl26 HG26
        obtain ⟨hx26_0, hf26_0⟩ := Kd.R_celln (⟨#[]⟩ : ByteArray) HO_3.out ((ji23) : Int) p26 q26
        replace p26 := eq_true p26
        replace q26 := eq_true q26
        have HP30 := Kd.R_putg HO_3.out ((ji23) : Int) (strOfNums (l0.drop (x4_1 : Int).toNat))
        go_wp2_with (first | ((with_reducible refine gate_store (t := 9) (p := 41) rfl ?_); refine store_event (t := 9) (p := 41) (v := ?vo_w31) (w1 := (wr.setCell ⟨go26, ((ji23) : Int).toNat, none⟩ (.string (strOfNums (l0.drop (x4_1 : Int).toNat))))) ?hg ?ho ?hn ?hr ?_; (case ho => rfl); (case hg => rfl); (case hn => rfl); (case hr => first | (go_simp; done) | (go_simp; rfl)); intro w31 hw; have hg : wr.grownBy w31 (some go26) := (by rw [hw]; exact HP30.2); have hp_ : Kd.R Kd.string 9 w31 w.heap.size (fun _ => True) (.slice (some ⟨go26, 0, none⟩) x3_1.length co27) y397 := (by rw [hw, Ny397.out]; exact HP30.1); clear HP30; have n0_ := Aside0.mk (hp_); have n1_ := Aside0.mk ((by rw [hw]; exact below_set (HB.out) GB26.out : Below w.heap.size w w31)); clear HO_3; clear HB; have HO_3 := n0_; have HB := n1_; clear n0_ n1_; clear hg hw hp_))
        go_ret
        exact ⟨_, by first | rfl | (simp [errW_none, errW_some] <;> rfl) | (simp only [← hji23]; first | rfl | (simp [errW_none, errW_some] <;> rfl)) | (simp [*, errW_none, errW_some] <;> rfl), by (with_reducible repeat (first | apply Kd.R_alloc | apply Kd.R_drewN | apply Kd.R_drew)); exact HO_3.out, by repeat (first | (with_reducible first | exact HB.out | apply below_alloc | apply pw_below_drewN | apply below_drew1) | exact HB.out)⟩
       ·rw [if_neg c25] at H
        exact absurd H (by simp)
      ·rw [if_neg c24] at H
       exact absurd H (by simp)
     ·rw [if_neg c22] at H
      exact absurd H (by simp)
    ·rw [if_neg c21] at H
     exact absurd H (by simp)
end Go.Proofs.YtpklfaglenkdaaaDoor.Pr
end
section
namespace Go.Proofs.YtpklfaglenkdaaaDoor.Pr
open Go.RowKit Go.Proofs.YtpklfaglenkdaaaDoorW.PrintWords Go.Proofs.YtpklfaglenkdaaaDoorW.PrintLast Go.Proofs.YtpklfaglenkdaaaDoorW.PrintMore
def partsOf : List Int → List Int → List (List Int)
 | cur, [] => [cur]
 | cur, b :: l => if b = 10 then cur :: partsOf [] l else partsOf (cur ++ [b]) l
theorem partsOf_length (l : List Int) : ∀ cur, (partsOf cur l).length = l.count 10 + 1 := by
 induction l with
 | nil => intro cur; rfl
 | cons b l ih =>
  intro cur
  by_cases h : b = 10
  ·subst h
   simp [partsOf, ih]
  ·simp [partsOf, ih, h]
theorem parts_loop (l : List Int) (hl : l.length ≤ 8796093000000) : ∀ (d i f : Nat) (done : List ByteArray) (z : ByteArray), i + d = l.length → f ≤ i → done.length ≤ i →
  Ev (fun k => sidingref13_Parts.l0 k l (done ++ [z]) (f : Int) (i : Int)) (done ++ (partsOf ((l.take i).drop f) (l.drop i)).map strOfNums) := by
 intro d
 induction d with
 | zero =>
  intro i f done z hi hf hd
  obtain rfl : i = l.length := by omega
  refine Ev.step (fun k => by rw [sidingref13_Parts.l0]) ?_
  refine Ev.neg (by omega) (Ev.pos (by omega) (Ev.pos (by omega) ?_))
  have hlen : (done ++ [z]).length = done.length + 1 := by simp
  rw [hlen, w64 (by omega)]
  refine Ev.pos (by omega) (Ev.pos (by omega) (Ev.rt ?_))
  have e : ((((done.length + 1 : Nat) : Int) - 1).toNat) = done.length := by omega
  rw [e, List.set_append_right _ _ (Nat.le_refl _)]
  simp [partsOf]
 | succ d ih =>
  intro i f done z hi hf hd
  have hlt : i < l.length := by omega
  refine Ev.step (fun k => by rw [sidingref13_Parts.l0]) ?_
  refine Ev.pos (by omega) (Ev.pos (by omega) ?_)
  rw [rd_at l i hlt, w64 (x := (i : Int) + 1) (by omega)]
  have ht : (l.take (i + 1)).drop f = (l.take i).drop f ++ [l[i]] := by
   rw [take_succ_at l i hlt, List.drop_append_of_le_length (by rw [List.length_take]; omega)]
  by_cases hb : l[i] = 10
  ·refine Ev.pos hb ?_
   refine Ev.pos (by omega) (Ev.pos (by omega) (Ev.pos (by omega) ?_))
   have hlen : (done ++ [z]).length = done.length + 1 := by simp
   rw [hlen, w64 (x := ((done.length + 1 : Nat) : Int) - 1) (by omega)]
   refine Ev.pos (by omega) (Ev.pos (by omega) (Ev.bs ?_))
   have e : ((((done.length + 1 : Nat) : Int) - 1).toNat) = done.length := by omega
   rw [e, List.set_append_right _ _ (Nat.le_refl _)]
   refine Ev.pos (by simp; omega) ?_
   have h := ih (i + 1) (i + 1) (done ++ [strOfNums ((l.take i).drop f)]) ⟨#[]⟩ (by omega) (Nat.le_refl _) (by simp; omega)
   have e2 : (l.take (i + 1)).drop (i + 1) = [] := List.drop_eq_nil_of_le (by rw [List.length_take]; omega)
   rw [e2] at h
   refine Ev.eq ?_ (by simpa using h)
   rw [drop_at l i hlt]
   simp [partsOf, hb]
  ·refine Ev.neg hb ?_
   have h := ih (i + 1) f done z (by omega) (by omega) (by omega)
   rw [ht] at h
   refine Ev.eq ?_ (by simpa using h)
   rw [drop_at l i hlt]
   simp [partsOf, hb]
theorem parts_ev (l : List Int) (hl : l.length ≤ 8796093000000) : Ev (fun k => sidingref13_Parts.f k l) ((partsOf [] l).map strOfNums) := by
 unfold sidingref13_Parts.f
 have h := parts_loop l hl l.length 0 0 [] ⟨#[]⟩ (by omega) (Nat.le_refl _) (Nat.le_refl _)
 simpa using h
theorem feedy_count (s : ByteArray) : feedy s = decide (0 < (bytesOf s).count 10) := by
 unfold feedy bytesOf
 generalize s.data.toList = l
 rw [Bool.eq_iff_iff, decide_eq_true_iff, decide_eq_true_iff]
 induction l with
 | nil => simp [Go.Lib.indexByte]
 | cons b l ih =>
  by_cases h : b = 10
  ·subst h
   simp [Go.Lib.indexByte]
  ·have h2 : ¬ ((b.toNat : Int) = 10) := by
    intro h3
    apply h
    apply UInt8.toNat_inj.1
    have : b.toNat = 10 := by omega
    rw [this]
    rfl
   have h1 : (b == 10) = false := by simpa using h
   simp only [Go.Lib.indexByte, h1, List.map_cons, List.count_cons]
   rw [if_neg (by simp)]
   have h3 : (((b.toNat : Int)) == 10) = false := by simpa using h2
   rw [h3]
   by_cases h4 : Go.Lib.indexByte l 10 = -1
   ·rw [h4]
    simp only [beq_self_eq_true, if_true]
    rw [h4] at ih
    simpa using ih
   ·have h5 : (Go.Lib.indexByte l 10 == -1) = false := by simpa using h4
    rw [h5, if_neg (by simp)]
    have h6 : 0 ≤ Go.Lib.indexByte l 10 + 1 ↔ 0 ≤ Go.Lib.indexByte l 10 := by
     constructor
     ·intro h7
      have := Go.Lib.indexByte l 10
      omega
     ·intro h7
      omega
    simpa [h6] using ih
end Go.Proofs.YtpklfaglenkdaaaDoor.Pr
end
section
namespace Go.Proofs.YtpklfaglenkdaaaDoor.Pr
open Go.RowKit Go.Proofs.YtpklfaglenkdaaaDoorW.PrintWords Go.Proofs.YtpklfaglenkdaaaDoorW.PrintLast Go.Proofs.YtpklfaglenkdaaaDoorW.PrintMore
def ref13_Feed.f (l0 : List ByteArray) : Option (Bool) := if (l0.all fun s => decide (s.size ≤ 8796093000000)) = true then some (l0.any feedy) else none
theorem feed_parts (s : ByteArray) : decide (((((partsOf [] (bytesOf s)).map strOfNums).length : Nat) : Int) > 1) = feedy s := by
 rw [feedy_count, List.length_map, partsOf_length, Bool.eq_iff_iff, decide_eq_true_iff, decide_eq_true_iff]
 omega
set_option maxHeartbeats 2000000 in
theorem ref13_Feed.calls (A0 : Option Addr) (c0 : Nat) (l0 : List ByteArray) (r : Bool) (w : World) (hr0 : Kd.C Kd.string w A0 l0.length l0) (hc0 : l0.length ≤ c0) (h : ref13_Feed.f l0 = some r) :
  Calls Tryd.prog 25 #[.slice A0 l0.length c0] w fun e w' => e = .returned (.bool r) ∧ Below w.heap.size w w' := by
 unfold ref13_Feed.f at h
 split at h
 ·rename_i hsm
  have hsz : ∀ s ∈ l0, s.size ≤ 8796093000000 := fun s hs => of_decide_eq_true (List.all_eq_true.1 hsm s hs)
  obtain rfl : l0.any feedy = r := by injection h
  clear h hsm
  have hbig : l0.length ≤ 9223372036854775807 := hr0.2.1
  have HSZ := Aside0.mk hsz
  have HR0 := Aside0.mk hr0
  clear hsz hr0
  go_enter Tryd.func25, Tryd.ntmps25
  go_wp2
  go_loopg [3] l0.length (fun gg s3 wr => ∃ kk : Nat, kk ≤ l0.length ∧ l0.length - kk ≤ gg ∧ s3 = .int .i64 kk ∧ Aside0 (Below w.heap.size w wr) ∧ Aside0 (∀ j (hj : j < l0.length), j < kk → feedy (l0[j]'hj) = false))
  case atStart => exact ⟨0, Nat.zero_le _, by omega, rfl, ⟨Below.refl _ _⟩, ⟨fun j _ hj => absurd hj (Nat.not_lt_zero _)⟩⟩
  case round =>
   obtain ⟨kk, hkk, hg, rfl, HB, HN⟩ := hrel
   by_cases hlt : kk < l0.length
   ·have hltz : (kk : Int) < (l0.length : Int) := by omega
    obtain ⟨ad, rfl, hcell⟩ := Kd.at_string (Kd.C_below HR0.out HB.out) (kk : Int) (by omega) (by omega)
    simp only [Int.toNat_natCast] at hcell
    have hy0 : rdOf ByteArray.empty l0 (kk : Int) = l0[kk] := by simp [rdOf, hlt]
    rw [hy0] at hcell
    obtain ⟨y, hy⟩ : ∃ y, y = l0[kk] := ⟨_, rfl⟩
    rw [← hy] at hcell
    have hys : y.size ≤ 8796093000000 := by rw [hy]; exact HSZ.out _ (List.getElem_mem hlt)
    have HYS := Aside0.mk hys
    have HY := Aside0.mk hy
    have hbl : (bytesOf y).length = y.size := bytesOf_length y
    obtain ⟨k, hk⟩ := (parts_ev (bytesOf y) (by rw [hbl]; exact hys)).rounds
    have hfp := feed_parts y
    obtain ⟨ps, eps⟩ : ∃ ps, ps = (partsOf [] (bytesOf y)).map strOfNums := ⟨_, rfl⟩
    rw [← eps] at hk hfp
    have HK := Aside0.mk hk
    have HF := Aside0.mk hfp
    have HBL := Aside0.mk hbl
    clear hk hfp eps hy hy0 hys hbl
    obtain ⟨pl, hpl⟩ : ∃ n, n = ps.length := ⟨_, rfl⟩
    have HPL := Aside0.mk hpl
    clear hpl
    have kb := fun W => print_bytes (P := Tryd.prog) 9 24 5 Tryd.underlying9 Tryd.underlying24 Tryd.underlying5 y W
    have hC : ∀ W : World, Calls Tryd.prog 46 #[.slice (some ⟨W.heap.size, 0, none⟩) y.size (grownCap W y.size 0 5)] (Lib.bytesWorld W 5 y) fun e w' => ∃ (A : Option Addr) (c : Nat), e = .returned (.slice A pl c) ∧ Below W.heap.size W w' := by
     intro W
     have h := sidingref13_Parts.calls k (some ⟨W.heap.size, 0, none⟩) (grownCap W y.size 0 5) (bytesOf y) ps (Lib.bytesWorld W 5 y) (by rw [HBL.out]; exact bytes_C W 5 y (by have := HYS.out; omega)) (by rw [HBL.out]; exact grownCap_ge _ _ _ _) HK.out
     rw [HBL.out] at h
     refine h.mono ?_
     rintro e w' ⟨v, rfl, hR, hb⟩
     obtain ⟨A, c, rfl⟩ := Kd.R_slice hR
     refine ⟨A, c, by rw [HPL.out], ?_⟩
     have hs : (Lib.bytesWorld W 5 y).heap.size = W.heap.size + 1 := Lib.bytesWorld_size W 5 y
     exact below_then (bytes_below (Below.refl W.heap.size W) (Nat.le_refl _) 5 y) (by omega) hb
    have HF' : decide ((pl : Int) > 1) = feedy y := by rw [HPL.out]; exact HF.out
    have HF2 := Aside0.mk HF'
    clear HF' HF
    by_cases h1 : 1 < pl
    ·have h1i : (1 : Int) < (pl : Int) := by omega
     go_wp2_with (go_at_call 46; refine (hC _).mono ?_; rintro e w' ⟨A, c, rfl, hb⟩; have HB1 := Aside0.mk hb; clear hb)
     go_ret
     refine ⟨?_, below_then HB.out (Below.size HB.out) HB1.out⟩
     have : l0.any feedy = true := List.any_eq_true.2 ⟨y, by rw [HY.out]; exact List.getElem_mem hlt, by rw [← HF2.out]; exact decide_eq_true h1i⟩
     rw [this]
     rfl
    ·have h1i : ¬ (1 : Int) < (pl : Int) := by omega
     go_wp2_with (go_at_call 46; refine (hC _).mono ?_; rintro e w' ⟨A, c, rfl, hb⟩; have HB1 := Aside0.mk hb; clear hb)
     go_roundg (l0.length - (kk + 1))
     case measure => omega
     case rel =>
      refine ⟨kk + 1, by omega, by omega, by go_num, ⟨below_then HB.out (Below.size HB.out) HB1.out⟩, ⟨fun j hjl hj => ?_⟩⟩
      by_cases e : j = kk
      ·subst e
       rw [← HY.out, ← HF2.out]
       exact decide_eq_false (by omega)
      ·exact HN.out j hjl (by omega)
   ·have hltz : ¬ (kk : Int) < (l0.length : Int) := by omega
    have hk : kk = l0.length := by omega
    have HK := Aside0.mk hk
    clear hk
    go_wp2
    go_ret
    refine ⟨?_, HB.out⟩
    have : l0.any feedy = false := by
     rw [List.any_eq_false]
     intro s hs
     obtain ⟨j, hj, rfl⟩ := List.mem_iff_getElem.1 hs
     rw [HN.out j hj (by rw [HK.out]; exact hj)]
     simp
    rw [this]
    rfl
 ·cases h
end Go.Proofs.YtpklfaglenkdaaaDoor.Pr
end
section
namespace Go.Proofs.YtpklfaglenkdaaaDoor.Pr
open Go.RowKit Go.Proofs.YtpklfaglenkdaaaDoorW.PrintWords Go.Proofs.YtpklfaglenkdaaaDoorW.PrintLast Go.Proofs.YtpklfaglenkdaaaDoorW.PrintMore
attribute [local go_sem] max2_int min2_int max_two min_two max_three min_three max_four min_four   
def sidingref15_Plain.l0 : Nat → List ByteArray → Int → Option (Bool)
 | 0, _, _ => none
 | k + 1, x0, x3 => if x3 < (x0.length : Int) then (if 0 ≤ x3 then (if ((rdOf ByteArray.empty x0 x3).size : Int) > 2000 then (some false) else (sidingref15_Plain.l0 k x0 (wrap64 (x3 + 1)))) else (none)) else (if (x0.length : Int) ≤ 60 then ((ref13_Feed.f x0).bind fun t110 => (some (!t110))) else (some false))
def sidingref15_Plain.f (k : Nat) (l0 : List ByteArray) : Option (Bool) := sidingref15_Plain.l0 k l0 0
set_option maxHeartbeats 8000000 in
set_option maxRecDepth 100000 in
theorem sidingref15_Plain.calls (k : Nat) (A0 : Option Addr) (c0 : Nat) (l0 : List ByteArray) (r : Bool) (w : World) (hr0 : Kd.C Kd.string w A0 l0.length l0) (hc0 : l0.length ≤ c0) (h : sidingref15_Plain.f k l0 = some r) :
  Calls Tryd.prog 61 #[.slice A0 l0.length c0] w fun e w' => e = .returned (.bool r) ∧ Below w.heap.size w w' := by
 have HR0 := Aside0.mk hr0
 have HC0 := Aside0.mk hc0
 clear hr0 hc0
 have HB := Aside0.mk (Below.refl w.heap.size w)
 have H : (sidingref15_Plain.l0 k l0 0) = some r := h
 clear h
 have H' := Aside0.mk H
 clear H
 go_enter Tryd.func61, Tryd.ntmps61
 go_wp2
 go_loopg [3] k (fun kq v3 w' => ∃ (x3_1 : Int), v3 = .int .i64 x3_1 ∧ Aside0 (sidingref15_Plain.l0 kq l0 x3_1 = some r) ∧ Aside0 (kq ≤ k) ∧ Aside0 (Below w.heap.size w w'))
 case atStart => exact ⟨(0), (by first | rfl | (simp; done) | (simp [*]; done)), H', ⟨Nat.le_refl _⟩, ⟨by repeat (first | (with_reducible first | exact HB.out | apply below_alloc | apply pw_below_drewN | apply below_drew1) | exact HB.out)⟩⟩
 case round =>
  clear H'
  obtain ⟨x3_1, rfl, HA, HK1, HB⟩ := hrel
  cases gk with
  | zero => exact absurd HA.out (by simp [sidingref15_Plain.l0])
  | succ k1 =>
   have H := HA.out
   clear HA
   simp only [sidingref15_Plain.l0] at H
   by_cases c2 : x3_1 < (l0.length : Int)
   ·rw [if_pos c2] at H
    have c2b0 : decide (x3_1 < (l0.length : Int)) = true := decide_eq_true c2
    clear c2
    by_cases c3 : 0 ≤ x3_1
    ·rw [if_pos c3] at H
     have c3b0 : decide (0 ≤ x3_1) = true := decide_eq_true c3
     clear c3
     by_cases c4 : ((rdOf ByteArray.empty l0 x3_1).size : Int) > 2000
     ·rw [if_pos c4] at H
      have c4b0 : decide (2000 < ((rdOf ByteArray.empty l0 x3_1).size : Int)) = true := decide_eq_true c4
      have c4b1 : decide (2000 < (rdOf ByteArray.empty l0 x3_1).size) = true := decide_eq_true (by omega)
      clear c4
      obtain rfl := Option.some.inj H
      have p109 : 0 ≤ (x3_1 : Int) := of_decide_eq_true (by first | (with_reducible assumption) | assumption)
      have q109 : x3_1 < (l0.length : Int) := of_decide_eq_true (by first | (with_reducible assumption) | assumption)
      obtain ⟨ad109, e109, hx109_0⟩ := Kd.at_string HR0.out x3_1 p109 q109
      cases e109
      replace hx109_0 := (HB.out.cell (World.block_lt_of_cell? w _ hx109_0)).trans hx109_0
      replace p109 := eq_true p109
      replace q109 := eq_true q109
      go_wp2
      go_ret
      exact ⟨by first | rfl | (simp [errW_none, errW_some] <;> rfl) | (simp [*, errW_none, errW_some] <;> rfl), by repeat (first | (with_reducible first | exact HB.out | apply below_alloc | apply pw_below_drewN | apply below_drew1) | exact HB.out)⟩
     ·rw [if_neg c4] at H
      have c4b0 : decide (2000 < ((rdOf ByteArray.empty l0 x3_1).size : Int)) = false := decide_eq_false c4
      have c4b1 : decide (2000 < (rdOf ByteArray.empty l0 x3_1).size) = false := decide_eq_false (by omega)
      clear c4
      have H' := Aside0.mk H
      clear H
      have p109 : 0 ≤ (x3_1 : Int) := of_decide_eq_true (by first | (with_reducible assumption) | assumption)
      have q109 : x3_1 < (l0.length : Int) := of_decide_eq_true (by first | (with_reducible assumption) | assumption)
      obtain ⟨ad109, e109, hx109_0⟩ := Kd.at_string HR0.out x3_1 p109 q109
      cases e109
      replace hx109_0 := (HB.out.cell (World.block_lt_of_cell? w _ hx109_0)).trans hx109_0
      replace p109 := eq_true p109
      replace q109 := eq_true q109
      go_wp2
      go_roundg k1
      case measure => have := HK1.out; omega
      case rel => exact ⟨(wrap64 (x3_1 + 1)), (by first | rfl | (simp; done) | (simp [*]; done)), H', ⟨by have := HK1.out; omega⟩, ⟨by repeat (first | (with_reducible first | exact HB.out | apply below_alloc | apply pw_below_drewN | apply below_drew1) | exact HB.out)⟩⟩
    ·rw [if_neg c3] at H
     exact absurd H (by simp)
   ·rw [if_neg c2] at H
    have c2b0 : decide (x3_1 < (l0.length : Int)) = false := decide_eq_false c2
    clear c2
    by_cases c5 : (l0.length : Int) ≤ 60
    ·rw [if_pos c5] at H
     have c5b0 : decide ((l0.length : Int) ≤ 60) = true := decide_eq_true c5
     have c5b1 : decide (l0.length ≤ 60) = true := decide_eq_true (by omega)
     clear c5
     replace H := Option.bind_eq_some_iff.mp H
     obtain ⟨t110, A60, H⟩ := H
     replace H : (some (!t110)) = some r := H
     have A6 := Aside0.mk A60
     clear A60
     obtain rfl := Option.some.inj H
     go_wp2_with (first | (go_at_call 25; (with_reducible refine (ref13_Feed.calls _ _ l0 t110 _ ?side1 ?side2 A6.out).mono ?_); (case side1 => repeat (first | exact (Kd.C_below HR0.out HB.out) | (with_reducible refine Kd.C_alloc ?_ _) | (with_reducible refine Kd.C_drewN ?_ _) | (with_reducible refine Kd.C_drew ?_))); (case side2 => exact HC0.out); rintro e w7 ⟨rfl, hb⟩; have n0_ := Aside0.mk (below_step (by repeat (first | (with_reducible first | exact HB.out | apply below_alloc | apply pw_below_drewN | apply below_drew1) | exact HB.out)) hb); clear HB; have HB := n0_; clear n0_; (try clear hb); (try clear hb2); (try clear hk); (try clear hi)))
     go_ret
     exact ⟨by first | rfl | (simp [errW_none, errW_some] <;> rfl) | (simp [*, errW_none, errW_some] <;> rfl), by repeat (first | (with_reducible first | exact HB.out | apply below_alloc | apply pw_below_drewN | apply below_drew1) | exact HB.out)⟩
    ·rw [if_neg c5] at H
     have c5b0 : decide ((l0.length : Int) ≤ 60) = false := decide_eq_false c5
     have c5b1 : decide (l0.length ≤ 60) = false := decide_eq_false (by omega)
     clear c5
     obtain rfl := Option.some.inj H
     go_wp2
     go_ret
     exact ⟨by first | rfl | (simp [errW_none, errW_some] <;> rfl) | (simp [*, errW_none, errW_some] <;> rfl), by repeat (first | (with_reducible first | exact HB.out | apply below_alloc | apply pw_below_drewN | apply below_drew1) | exact HB.out)⟩
end Go.Proofs.YtpklfaglenkdaaaDoor.Pr
end
section
namespace Go.Proofs.YtpklfaglenkdaaaDoor.Pr
open Go.RowKit Go.Proofs.YtpklfaglenkdaaaDoorW.PrintWords Go.Proofs.YtpklfaglenkdaaaDoorW.PrintLast Go.Proofs.YtpklfaglenkdaaaDoorW.PrintMore
attribute [local go_sem] max2_int min2_int max_two min_two max_three min_three max_four min_four   
def sidingref13_Same.l0 : Nat → List ByteArray → List ByteArray → Int → Option (Bool)
 | 0, _, _, _ => none
 | k + 1, x0, x1, x5 => if x5 < (x0.length : Int) then (if 0 ≤ x5 then (if x5 < (x1.length : Int) then (if (rdOf ByteArray.empty x0 x5).toList = (rdOf ByteArray.empty x1 x5).toList then (sidingref13_Same.l0 k x0 x1 (wrap64 (x5 + 1))) else (some false)) else (none)) else (none)) else (some true)
def sidingref13_Same.f (k : Nat) (l0 : List ByteArray) (l1 : List ByteArray) : Option (Bool) := if (l0.length : Int) = (l1.length : Int) then (sidingref13_Same.l0 k l0 l1 0) else (some false)
set_option maxHeartbeats 8000000 in
set_option maxRecDepth 100000 in
theorem sidingref13_Same.calls (k : Nat) (A0 : Option Addr) (c0 : Nat) (l0 : List ByteArray) (A1 : Option Addr) (c1 : Nat) (l1 : List ByteArray) (r : Bool) (w : World) (hr0 : Kd.C Kd.string w A0 l0.length l0) (hc0 : l0.length ≤ c0) (hr1 : Kd.C Kd.string w A1 l1.length l1) (hc1 : l1.length ≤ c1) (h : sidingref13_Same.f k l0 l1 = some r) :
  Calls Tryd.prog 16 #[.slice A0 l0.length c0, .slice A1 l1.length c1] w fun e w' => e = .returned (.bool r) ∧ Drawn0 w w' := by
 have HR0 := Aside0.mk hr0
 have HC0 := Aside0.mk hc0
 clear hr0 hc0
 have HR1 := Aside0.mk hr1
 have HC1 := Aside0.mk hc1
 clear hr1 hc1
 have H : (if (l0.length : Int) = (l1.length : Int) then (sidingref13_Same.l0 k l0 l1 0) else (some false)) = some r := h
 clear h
 by_cases c3 : (l0.length : Int) = (l1.length : Int)
 ·rw [if_pos c3] at H
  have c3b0 : ((l0.length : Int) == (l1.length : Int)) = true := beq_iff_eq.mpr c3
  have c3b1 : ((l0.length : Int) != (l1.length : Int)) = false := bne_eq_false_iff_eq.mpr c3
  have c3b2 : (l0.length == l1.length) = true := by first | simpa using c3 | (simp at c3 ⊢; omega)
  clear c3
  have H' := Aside0.mk H
  clear H
  go_enter Tryd.func16, Tryd.ntmps16
  go_wp2
  repeat (go_quiet (fail); try go_wp2)
  go_loopg [5] k (fun kq v5 w' => ∃ (x5_1 : Int), v5 = .int .i64 x5_1 ∧ Aside0 (sidingref13_Same.l0 kq l0 l1 x5_1 = some r) ∧ Aside0 (kq ≤ k) ∧ Drawn0 w w')
  case atStart => exact ⟨(0), (by first | rfl | (simp; done) | (simp [*]; done)), H', ⟨Nat.le_refl _⟩, by repeat (first | exact Drawn0.refl _ | apply Drawn0.step)⟩
  case round =>
   clear H'
   try clear c1
   try clear p2
   try clear c3
   try clear c3b0
   try clear c3b1
   try clear c3b2
   obtain ⟨x5_1, rfl, HA, HK1, ⟨m1, rfl⟩⟩ := hrel
   cases gk with
   | zero => exact absurd HA.out (by simp [sidingref13_Same.l0])
   | succ k1 =>
    have H := HA.out
    clear HA
    simp only [sidingref13_Same.l0] at H
    by_cases c4 : x5_1 < (l0.length : Int)
    ·rw [if_pos c4] at H
     have c4b0 : decide (x5_1 < (l0.length : Int)) = true := decide_eq_true c4
     clear c4
     by_cases c5 : 0 ≤ x5_1
     ·rw [if_pos c5] at H
      have c5b0 : decide (0 ≤ x5_1) = true := decide_eq_true c5
      clear c5
      by_cases c6 : x5_1 < (l1.length : Int)
      ·rw [if_pos c6] at H
       have c6b0 : decide (x5_1 < (l1.length : Int)) = true := decide_eq_true c6
       clear c6
       by_cases c7 : (rdOf ByteArray.empty l0 x5_1).toList = (rdOf ByteArray.empty l1 x5_1).toList
       ·rw [if_pos c7] at H
        have c7b0 : ((rdOf ByteArray.empty l0 x5_1).toList == (rdOf ByteArray.empty l1 x5_1).toList) = true := beq_iff_eq.mpr c7
        have c7b1 : ((rdOf ByteArray.empty l0 x5_1).toList != (rdOf ByteArray.empty l1 x5_1).toList) = false := bne_eq_false_iff_eq.mpr c7
        clear c7
        have H' := Aside0.mk H
        clear H
        have p111 : 0 ≤ (x5_1 : Int) := of_decide_eq_true (by first | (with_reducible assumption) | assumption)
        have q111 : x5_1 < (l0.length : Int) := of_decide_eq_true (by first | (with_reducible assumption) | assumption)
        obtain ⟨ad111, e111, hx111_0⟩ := Kd.at_string HR0.out x5_1 p111 q111
        cases e111
        replace p111 := eq_true p111
        replace q111 := eq_true q111
        have p112 : 0 ≤ (x5_1 : Int) := of_decide_eq_true (by first | (with_reducible assumption) | assumption)
        have q112 : x5_1 < (l1.length : Int) := of_decide_eq_true (by first | (with_reducible assumption) | assumption)
        obtain ⟨ad112, e112, hx112_0⟩ := Kd.at_string HR1.out x5_1 p112 q112
        cases e112
        replace p112 := eq_true p112
        replace q112 := eq_true q112
        go_wp2
        repeat (go_quiet (fail); try go_wp2)
        go_roundg k1
        case measure => have := HK1.out; omega
        case rel => exact ⟨(wrap64 (x5_1 + 1)), (by first | rfl | (simp; done) | (simp [*]; done)), H', ⟨by have := HK1.out; omega⟩, by repeat (first | exact Drawn0.refl _ | apply Drawn0.step)⟩
       ·rw [if_neg c7] at H
        have c7b0 : ((rdOf ByteArray.empty l0 x5_1).toList == (rdOf ByteArray.empty l1 x5_1).toList) = false := beq_eq_false_iff_ne.mpr c7
        have c7b1 : ((rdOf ByteArray.empty l0 x5_1).toList != (rdOf ByteArray.empty l1 x5_1).toList) = true := bne_iff_ne.mpr c7
        obtain rfl := Option.some.inj H
        have p111 : 0 ≤ (x5_1 : Int) := of_decide_eq_true (by first | (with_reducible assumption) | assumption)
        have q111 : x5_1 < (l0.length : Int) := of_decide_eq_true (by first | (with_reducible assumption) | assumption)
        obtain ⟨ad111, e111, hx111_0⟩ := Kd.at_string HR0.out x5_1 p111 q111
        cases e111
        replace p111 := eq_true p111
        replace q111 := eq_true q111
        have p112 : 0 ≤ (x5_1 : Int) := of_decide_eq_true (by first | (with_reducible assumption) | assumption)
        have q112 : x5_1 < (l1.length : Int) := of_decide_eq_true (by first | (with_reducible assumption) | assumption)
        obtain ⟨ad112, e112, hx112_0⟩ := Kd.at_string HR1.out x5_1 p112 q112
        cases e112
        replace p112 := eq_true p112
        replace q112 := eq_true q112
        go_wp2
        repeat (go_quiet (fail); try go_wp2)
        go_ret
        exact ⟨by first | rfl | (simp; done) | (simp [*]; done), by repeat (first | exact Drawn0.refl _ | apply Drawn0.step)⟩
      ·rw [if_neg c6] at H
       exact absurd H (by simp)
     ·rw [if_neg c5] at H
      exact absurd H (by simp)
    ·rw [if_neg c4] at H
     have c4b0 : decide (x5_1 < (l0.length : Int)) = false := decide_eq_false c4
     clear c4
     obtain rfl := Option.some.inj H
     go_wp2
     repeat (go_quiet (fail); try go_wp2)
     go_ret
     exact ⟨by first | rfl | (simp; done) | (simp [*]; done), by repeat (first | exact Drawn0.refl _ | apply Drawn0.step)⟩
 ·rw [if_neg c3] at H
  have c3b0 : ((l0.length : Int) == (l1.length : Int)) = false := beq_eq_false_iff_ne.mpr c3
  have c3b1 : ((l0.length : Int) != (l1.length : Int)) = true := bne_iff_ne.mpr c3
  have c3b2 : (l0.length == l1.length) = false := by first | simpa using c3 | (simp at c3 ⊢; omega)
  obtain rfl := Option.some.inj H
  go_enter Tryd.func16, Tryd.ntmps16
  go_wp2
  repeat (go_quiet (fail); try go_wp2)
  go_ret
  exact ⟨by first | rfl | (simp; done) | (simp [*]; done), by repeat (first | exact Drawn0.refl _ | apply Drawn0.step)⟩
end Go.Proofs.YtpklfaglenkdaaaDoor.Pr
end
section
namespace Go.Proofs.YtpklfaglenkdaaaDoor.Pr
open Go.RowKit Go.Proofs.YtpklfaglenkdaaaDoorW.PrintWords Go.Proofs.YtpklfaglenkdaaaDoorW.PrintLast Go.Proofs.YtpklfaglenkdaaaDoorW.PrintMore
attribute [local go_sem] max2_int min2_int max_two min_two max_three min_three max_four min_four   
def sidingref18_Kind.j0 : Nat → Bool → Bool → Bool → Bool → Option (Int)
 | 0, _, _, _, _ => none
 | k + 1, x7, x8, x9, x19 => if x19 = true then (some 1) else (if x7 = true then (some 4) else (if x8 = true then (some 2) else (if x9 = true then (some 3) else (some 5))))
def sidingref18_Kind.f (k : Nat) (l0 : List ByteArray) (l1 : List ByteArray) (l2 : List ByteArray) : Option (Int) := (sidingref13_Same.f k l1 l2).bind fun t113 => ((sidingref13_Same.f k l2 l0).bind fun t114 => ((sidingref13_Same.f k l1 l0).bind fun t115 => (if t113 = true then (sidingref18_Kind.j0 k t113 t114 t115 t114) else (sidingref18_Kind.j0 k t113 t114 t115 false))))
set_option maxHeartbeats 8000000 in
set_option maxRecDepth 100000 in
theorem sidingref18_Kind.calls (k : Nat) (A0 : Option Addr) (c0 : Nat) (l0 : List ByteArray) (A1 : Option Addr) (c1 : Nat) (l1 : List ByteArray) (A2 : Option Addr) (c2 : Nat) (l2 : List ByteArray) (r : Int) (w : World) (hr0 : Kd.C Kd.string w A0 l0.length l0) (hc0 : l0.length ≤ c0) (hr1 : Kd.C Kd.string w A1 l1.length l1) (hc1 : l1.length ≤ c1) (hr2 : Kd.C Kd.string w A2 l2.length l2) (hc2 : l2.length ≤ c2) (h : sidingref18_Kind.f k l0 l1 l2 = some r) :
  Calls Tryd.prog 62 #[.slice A0 l0.length c0, .slice A1 l1.length c1, .slice A2 l2.length c2] w fun e w' => e = .returned (.int .u8 r) ∧ Drawn0 w w' := by
 have HR0 := Aside0.mk hr0
 have HC0 := Aside0.mk hc0
 clear hr0 hc0
 have HR1 := Aside0.mk hr1
 have HC1 := Aside0.mk hc1
 clear hr1 hc1
 have HR2 := Aside0.mk hr2
 have HC2 := Aside0.mk hc2
 clear hr2 hc2
 have H : ((sidingref13_Same.f k l1 l2).bind fun t113 => ((sidingref13_Same.f k l2 l0).bind fun t114 => ((sidingref13_Same.f k l1 l0).bind fun t115 => (if t113 = true then (sidingref18_Kind.j0 k t113 t114 t115 t114) else (sidingref18_Kind.j0 k t113 t114 t115 false))))) = some r := h
 clear h
 replace H := Option.bind_eq_some_iff.mp H
 obtain ⟨t113, A40, H⟩ := H
 replace H : ((sidingref13_Same.f k l2 l0).bind fun t114 => ((sidingref13_Same.f k l1 l0).bind fun t115 => (if t113 = true then (sidingref18_Kind.j0 k t113 t114 t115 t114) else (sidingref18_Kind.j0 k t113 t114 t115 false)))) = some r := H
 have A4 := Aside0.mk A40
 clear A40
 replace H := Option.bind_eq_some_iff.mp H
 obtain ⟨t114, A50, H⟩ := H
 replace H : ((sidingref13_Same.f k l1 l0).bind fun t115 => (if t113 = true then (sidingref18_Kind.j0 k t113 t114 t115 t114) else (sidingref18_Kind.j0 k t113 t114 t115 false))) = some r := H
 have A5 := Aside0.mk A50
 (try have sameA5 := (Option.some.inj (A4.out.symm.trans A5.out) : t113 = t114))
 clear A50
 replace H := Option.bind_eq_some_iff.mp H
 obtain ⟨t115, A60, H⟩ := H
 replace H : (if t113 = true then (sidingref18_Kind.j0 k t113 t114 t115 t114) else (sidingref18_Kind.j0 k t113 t114 t115 false)) = some r := H
 have A6 := Aside0.mk A60
 (try have sameA6 := (Option.some.inj (A5.out.symm.trans A6.out) : t114 = t115))
 clear A60
 have HC7 := Aside0.mk H
 clear H
 go_enter Tryd.func62, Tryd.ntmps62
 go_upto_region 2 with (first | ((with_reducible refine gate_callee (f := 16) rfl ?_); refine goesL_ (some 12) rfl rfl Tryd.func16 (by kernel_rfl) rfl #[.slice A1 l1.length c1, .slice A2 l2.length c2] rfl (by (try simp only [List.map_toArray, List.map_cons, List.map_nil]); first | done | rfl | (simp only [List.length_drop, List.length_take]; rfl)) ?_; (with_reducible refine (sidingref13_Same.calls k _ _ l1 _ _ l2 t113 _ ?side1 ?side2 ?side3 ?side4 A4.out).mono ?_); (case side1 => repeat (first | exact HR1.out | (with_reducible refine Kd.C_alloc ?_ _) | (with_reducible refine Kd.C_drewN ?_ _) | (with_reducible refine Kd.C_drew ?_))); (case side2 => exact HC1.out); (case side3 => repeat (first | exact HR2.out | (with_reducible refine Kd.C_alloc ?_ _) | (with_reducible refine Kd.C_drewN ?_ _) | (with_reducible refine Kd.C_drew ?_))); (case side4 => exact HC2.out); rintro e w' ⟨rfl, ⟨nd, rfl⟩⟩; refine ⟨_, rfl, ?_⟩) | ((with_reducible refine gate_callee (f := 16) rfl ?_); refine goesL_ (some 15) rfl rfl Tryd.func16 (by kernel_rfl) rfl #[.slice A2 l2.length c2, .slice A0 l0.length c0] rfl (by (try simp only [List.map_toArray, List.map_cons, List.map_nil]); first | done | rfl | (simp only [List.length_drop, List.length_take]; rfl)) ?_; (with_reducible refine (sidingref13_Same.calls k _ _ l2 _ _ l0 t114 _ ?side1 ?side2 ?side3 ?side4 A5.out).mono ?_); (case side1 => repeat (first | exact HR2.out | (with_reducible refine Kd.C_alloc ?_ _) | (with_reducible refine Kd.C_drewN ?_ _) | (with_reducible refine Kd.C_drew ?_))); (case side2 => exact HC2.out); (case side3 => repeat (first | exact HR0.out | (with_reducible refine Kd.C_alloc ?_ _) | (with_reducible refine Kd.C_drewN ?_ _) | (with_reducible refine Kd.C_drew ?_))); (case side4 => exact HC0.out); rintro e w' ⟨rfl, ⟨nd, rfl⟩⟩; refine ⟨_, rfl, ?_⟩) | ((with_reducible refine gate_callee (f := 16) rfl ?_); refine goesL_ (some 18) rfl rfl Tryd.func16 (by kernel_rfl) rfl #[.slice A1 l1.length c1, .slice A0 l0.length c0] rfl (by (try simp only [List.map_toArray, List.map_cons, List.map_nil]); first | done | rfl | (simp only [List.length_drop, List.length_take]; rfl)) ?_; (with_reducible refine (sidingref13_Same.calls k _ _ l1 _ _ l0 t115 _ ?side1 ?side2 ?side3 ?side4 A6.out).mono ?_); (case side1 => repeat (first | exact HR1.out | (with_reducible refine Kd.C_alloc ?_ _) | (with_reducible refine Kd.C_drewN ?_ _) | (with_reducible refine Kd.C_drew ?_))); (case side2 => exact HC1.out); (case side3 => repeat (first | exact HR0.out | (with_reducible refine Kd.C_alloc ?_ _) | (with_reducible refine Kd.C_drewN ?_ _) | (with_reducible refine Kd.C_drew ?_))); (case side4 => exact HC0.out); rintro e w' ⟨rfl, ⟨nd, rfl⟩⟩; refine ⟨_, rfl, ?_⟩))
 (try simp only [Act.put, List.setIfInBounds_toArray, List.set_cons_zero, List.set_cons_succ])
 go_cut [19] (fun v19 wc => ∃ (kq : Nat) (x19_6 : Bool), v19 = .bool x19_6 ∧ Aside0 (sidingref18_Kind.j0 kq t113 t114 t115 x19_6 = some r) ∧ Aside0 (kq ≤ k) ∧ Drawn0 w wc)
 case first =>
  have H := HC7.out
  clear HC7
  by_cases c8 : t113 = true
  ·subst c8
   have H1 : (sidingref18_Kind.j0 k true t114 t115 t114) = some r := by rw [if_pos rfl] at H; exact H
   clear H
   have H := H1
   clear H1
   have H' := Aside0.mk H
   clear H
   go_wp2
   go_meet
   case rel => exact ⟨_, (t114), (by first | rfl | (simp; done) | (simp [*]; done)), H', ⟨by first | omega | exact Nat.le_refl _⟩, by repeat (first | exact Drawn0.refl _ | apply Drawn0.step)⟩
  ·replace c8 := Bool.eq_false_iff.mpr c8
   subst c8
   have H1 : (sidingref18_Kind.j0 k false t114 t115 false) = some r := by rw [if_neg (show ¬ (false = true) by decide)] at H; exact H
   clear H
   have H := H1
   clear H1
   have H' := Aside0.mk H
   clear H
   go_wp2
   go_meet
   case rel => exact ⟨_, (false), (by first | rfl | (simp; done) | (simp [*]; done)), H', ⟨by first | omega | exact Nat.le_refl _⟩, by repeat (first | exact Drawn0.refl _ | apply Drawn0.step)⟩
 case rest =>
  clear HC7
  try clear c1
  try clear c2
  try clear p2
  try clear c6
  try clear c8
  obtain ⟨kq, x19_6, rfl, HA, HJ6, ⟨mc6, rfl⟩⟩ := hcut
  cases kq with
  | zero => exact absurd HA.out (by simp [sidingref18_Kind.j0])
  | succ kj6 =>
   have H := HA.out
   clear HA
   simp only [sidingref18_Kind.j0] at H
   by_cases c9 : x19_6 = true
   ·subst c9
    have H1 : (some 1) = some r := by rw [if_pos rfl] at H; exact H
    clear H
    have H := H1
    clear H1
    obtain rfl := Option.some.inj H
    go_wp2
    go_ret
    (try rw [sameA5])
    (try rw [sameA6])
    exact ⟨by first | rfl | (simp; done) | (simp [*]; done), by repeat (first | exact Drawn0.refl _ | apply Drawn0.step)⟩
   ·replace c9 := Bool.eq_false_iff.mpr c9
    subst c9
    have H1 : (if t113 = true then (some 4) else (if t114 = true then (some 2) else (if t115 = true then (some 3) else (some 5)))) = some r := by rw [if_neg (show ¬ (false = true) by decide)] at H; exact H
    clear H
    have H := H1
    clear H1
    by_cases c10 : t113 = true
    ·subst c10
     have H1 : (some 4) = some r := by rw [if_pos rfl] at H; exact H
     clear H
     have H := H1
     clear H1
     obtain rfl := Option.some.inj H
     go_wp2
     go_ret
     (try rw [sameA5])
     (try rw [sameA6])
     exact ⟨by first | rfl | (simp; done) | (simp [*]; done), by repeat (first | exact Drawn0.refl _ | apply Drawn0.step)⟩
    ·replace c10 := Bool.eq_false_iff.mpr c10
     subst c10
     have H1 : (if t114 = true then (some 2) else (if t115 = true then (some 3) else (some 5))) = some r := by rw [if_neg (show ¬ (false = true) by decide)] at H; exact H
     clear H
     have H := H1
     clear H1
     by_cases c11 : t114 = true
     ·subst c11
      have H1 : (some 2) = some r := by rw [if_pos rfl] at H; exact H
      clear H
      have H := H1
      clear H1
      obtain rfl := Option.some.inj H
      go_wp2
      go_ret
      (try rw [sameA5])
      (try rw [sameA6])
      exact ⟨by first | rfl | (simp; done) | (simp [*]; done), by repeat (first | exact Drawn0.refl _ | apply Drawn0.step)⟩
     ·replace c11 := Bool.eq_false_iff.mpr c11
      subst c11
      have H1 : (if t115 = true then (some 3) else (some 5)) = some r := by rw [if_neg (show ¬ (false = true) by decide)] at H; exact H
      clear H
      have H := H1
      clear H1
      by_cases c12 : t115 = true
      ·subst c12
       have H1 : (some 3) = some r := by rw [if_pos rfl] at H; exact H
       clear H
       have H := H1
       clear H1
       obtain rfl := Option.some.inj H
       go_wp2
       go_ret
       (try rw [sameA5])
       (try rw [sameA6])
       exact ⟨by first | rfl | (simp; done) | (simp [*]; done), by repeat (first | exact Drawn0.refl _ | apply Drawn0.step)⟩
      ·replace c12 := Bool.eq_false_iff.mpr c12
       subst c12
       have H1 : (some 5) = some r := by rw [if_neg (show ¬ (false = true) by decide)] at H; exact H
       clear H
       have H := H1
       clear H1
       obtain rfl := Option.some.inj H
       go_wp2
       go_ret
       (try rw [sameA5])
       (try rw [sameA6])
       exact ⟨by first | rfl | (simp; done) | (simp [*]; done), by repeat (first | exact Drawn0.refl _ | apply Drawn0.step)⟩
end Go.Proofs.YtpklfaglenkdaaaDoor.Pr
end
