/- Part 19 of the proof of MergeApart: texts put together. -/
import Derived.Test.YtahpbpacjciddaaJMergeApart4
import Derived.Test.YtahpbpacjciddaaJMergeApart9
import Derived.Test.YtahpbpacjciddaaJMergeApart10
import Derived.Test.YtahpbpacjciddaaJMergeApart18
set_option linter.unusedVariables false
set_option linter.unusedSimpArgs false
section
namespace Go.Proofs.Ytahpbpacjciddaa.Pr
open Go.RowKit Go.Proofs.YtahpbpacjciddaaW.PrintWords Go.Proofs.YtahpbpacjciddaaW.PrintLast Go.Proofs.YtahpbpacjciddaaW.PrintMore
attribute [local go_sem] max2_int min2_int max_two min_two max_three min_three max_four min_four   
mutual
def sidinglaw18_single.l0 : Nat → List (S34) → Int → Int → Option (Bool)
  | 0, _, _, _ => none
  | k + 1, x7, x8, x9 => if x9 < (x7.length : Int) then (sidinglaw18_single.j1 k x7 x8 x9 (x8 == 0)) else (sidinglaw18_single.j1 k x7 x8 x9 false)
def sidinglaw18_single.j1 : Nat → List (S34) → Int → Int → Bool → Option (Bool)
  | 0, _, _, _, _ => none
  | k + 1, x7, x8, x9, x25 => if x25 = true then (sidinglaw18_single.l1 k x7 x8 x9 0) else (some false)
def sidinglaw18_single.l1 : Nat → List (S34) → Int → Int → Int → Option (Bool)
  | 0, _, _, _, _ => none
  | k + 1, x7, x8, x9, x10 => if 0 ≤ x9 then (if x9 < (x7.length : Int) then (if x10 < (((rd_T34 x7 x9).f1).length : Int) then (sidinglaw18_single.j3 k x7 x8 x9 x10 (((rd_T34 x7 x9).f0) == 1)) else (sidinglaw18_single.j3 k x7 x8 x9 x10 false)) else (none)) else (none)
def sidinglaw18_single.j3 : Nat → List (S34) → Int → Int → Int → Bool → Option (Bool)
  | 0, _, _, _, _, _ => none
  | k + 1, x7, x8, x9, x10, x43 => if x43 = true then (if 0 ≤ x9 then (if x9 < (x7.length : Int) then (if 0 ≤ x10 then (if x10 < (((rd_T34 x7 x9).f1).length : Int) then (if (rdOf ByteArray.empty ((rd_T34 x7 x9).f1) x10).toList = ([98, 101, 116, 119, 101, 101, 110] : List UInt8) then (some true) else (sidinglaw18_single.l1 k x7 x8 x9 (wrap64 (x10 + 1)))) else (none)) else (none)) else (none)) else (none)) else (sidinglaw18_single.l0 k x7 x8 (wrap64 (x9 + 1)))
end
def sidinglaw18_single.f (k : Nat) (l0 : List ByteArray) (l1 : List ByteArray) (l2 : List ByteArray) : Option (Bool) := (ref18_Merge.f k l0 l1 l2).bind fun bt232 => (sidinglaw18_single.l0 k bt232.1 bt232.2 0)
set_option maxHeartbeats 8000000 in
set_option maxRecDepth 100000 in
theorem sidinglaw18_single.calls (k : Nat) (A0 : Option Addr) (c0 : Nat) (l0 : List ByteArray) (A1 : Option Addr) (c1 : Nat) (l1 : List ByteArray) (A2 : Option Addr) (c2 : Nat) (l2 : List ByteArray) (r : Bool) (w : World) (hr0 : Kd.C Kd.string w A0 l0.length l0) (hc0 : l0.length ≤ c0) (hr1 : Kd.C Kd.string w A1 l1.length l1) (hc1 : l1.length ≤ c1) (hr2 : Kd.C Kd.string w A2 l2.length l2) (hc2 : l2.length ≤ c2) (h : sidinglaw18_single.f k l0 l1 l2 = some r) :
  Calls Try.prog 18 #[.slice A0 l0.length c0, .slice A1 l1.length c1, .slice A2 l2.length c2] w fun e w' => e = .returned (.bool r) ∧ Below w.heap.size w w' := by
 have HR0 := Aside0.mk hr0
 have HC0 := Aside0.mk hc0
 clear hr0 hc0
 have HR1 := Aside0.mk hr1
 have HC1 := Aside0.mk hc1
 clear hr1 hc1
 have HR2 := Aside0.mk hr2
 have HC2 := Aside0.mk hc2
 clear hr2 hc2
 have HB := Aside0.mk (Below.refl w.heap.size w)
 have H : ((ref18_Merge.f k l0 l1 l2).bind fun bt232 => (sidinglaw18_single.l0 k bt232.1 bt232.2 0)) = some r := h
 clear h
 replace H := Option.bind_eq_some_iff.mp H
 obtain ⟨⟨t232, t233⟩, A40, H⟩ := H
 replace H : (sidinglaw18_single.l0 k t232 t233 0) = some r := H
 have A4 := Aside0.mk A40
 clear A40
 have H' := Aside0.mk H
 clear H
 go_enter Try.func18, Try.ntmps18
 go_wp2_with (first | ((with_reducible refine gate_callee (f := 10) rfl ?_); refine goesL_ (some 15) rfl rfl Try.func10 (by kernel_rfl) rfl #[.slice A0 l0.length c0, .slice A1 l1.length c1, .slice A2 l2.length c2] rfl (by (try simp only [List.map_toArray, List.map_cons, List.map_nil]); first | done | rfl | (simp only [List.length_drop, List.length_take]; rfl)) ?_; (with_reducible refine (ref18_Merge.calls k _ _ l0 _ _ l1 _ _ l2 t232 t233 _ ?side1 ?side2 ?side3 ?side4 ?side5 ?side6 A4.out).mono ?_); (case side1 => repeat (first | exact HR0.out | (with_reducible refine Kd.C_alloc ?_ _) | (with_reducible refine Kd.C_drewN ?_ _) | (with_reducible refine Kd.C_drew ?_))); (case side2 => exact HC0.out); (case side3 => repeat (first | exact HR1.out | (with_reducible refine Kd.C_alloc ?_ _) | (with_reducible refine Kd.C_drewN ?_ _) | (with_reducible refine Kd.C_drew ?_))); (case side4 => exact HC1.out); (case side5 => repeat (first | exact HR2.out | (with_reducible refine Kd.C_alloc ?_ _) | (with_reducible refine Kd.C_drewN ?_ _) | (with_reducible refine Kd.C_drew ?_))); (case side6 => exact HC2.out); rintro e w5 ⟨v234, rfl, ho0, hb⟩; refine ⟨_, rfl, ?_⟩; have n0_ := Aside0.mk (Kd.S_lower ho0 (below_size (by repeat (first | (with_reducible first | exact HB.out | apply below_alloc | apply pw_below_drewN | apply below_drew1) | exact HB.out)))); have n1_ := Aside0.mk (below_step (by repeat (first | (with_reducible first | exact HB.out | apply below_alloc | apply pw_below_drewN | apply below_drew1) | exact HB.out)) hb); clear HB; have HO235 := n0_; have HB := n1_; clear n0_ n1_; (try clear hb); (try clear hb2); (try clear hk); (try clear hi); (try clear ho0)))
 go_loopg [9] k (fun kq v9 w' => ∃ (x9_1 : Int), v9 = .int .i64 x9_1 ∧ Aside0 (sidinglaw18_single.l0 kq t232 t233 x9_1 = some r) ∧ Aside0 (kq ≤ k) ∧ Aside0 (Kd.S k34 34 w' w.heap.size (fun _ => True) v234 t232) ∧ Aside0 (Below w.heap.size w w'))
 case atStart => exact ⟨(0), (by first | rfl | (simp; done) | (simp [*]; done)), H', ⟨Nat.le_refl _⟩, ⟨by (with_reducible repeat (first | apply Kd.S_alloc | apply Kd.S_drewN | apply Kd.S_drew)); exact HO235.out⟩, ⟨by repeat (first | (with_reducible first | exact HB.out | apply below_alloc | apply pw_below_drewN | apply below_drew1) | exact HB.out)⟩⟩
 case round =>
  clear H'
  try clear c1
  try clear c2
  try clear p2
  obtain ⟨x9_1, rfl, HA, HK1, HO_7, HB⟩ := hrel
  cases gk with
  | zero => exact absurd HA.out (by simp [sidinglaw18_single.l0])
  | succ k1 =>
   have H := HA.out
   clear HA
   simp only [sidinglaw18_single.l0] at H
   have HC6 := Aside0.mk H
   clear H
   go_upto_region 3 with (fail)
   go_cut [25] (fun v25 wc => ∃ (kq : Nat) (x25_5 : Bool), v25 = .bool x25_5 ∧ Aside0 (sidinglaw18_single.j1 kq t232 t233 x9_1 x25_5 = some r) ∧ Aside0 (kq ≤ k1) ∧ Aside0 (Kd.S k34 34 wc w.heap.size (fun _ => True) v234 t232) ∧ Aside0 (Below w.heap.size w wc))
   case first =>
    have H := HC6.out
    clear HC6
    by_cases c7 : x9_1 < (t232.length : Int)
    ·rw [if_pos c7] at H
     have c7b0 : decide (x9_1 < (t232.length : Int)) = true := decide_eq_true c7
     clear c7
     (first | rw [c7b0] | (simp only [i64_w, i32_w]; rw [c7b0]) | skip)
     have H' := Aside0.mk H
     clear H
     obtain ⟨Ao8, co8, eo8⟩ := Kd.S_slice HO_7.out
     subst eo8
     go_wp2
     go_meet
     case rel => exact ⟨_, ((t233 == 0)), (by first | rfl | (simp; done) | (simp [*]; done)), H', ⟨by have := HK1.out; first | omega | exact Nat.le_refl _⟩, ⟨by (with_reducible repeat (first | apply Kd.S_alloc | apply Kd.S_drewN | apply Kd.S_drew)); exact HO_7.out⟩, ⟨by repeat (first | (with_reducible first | exact HB.out | apply below_alloc | apply pw_below_drewN | apply below_drew1) | exact HB.out)⟩⟩
    ·rw [if_neg c7] at H
     have c7b0 : decide (x9_1 < (t232.length : Int)) = false := decide_eq_false c7
     clear c7
     (first | rw [c7b0] | (simp only [i64_w, i32_w]; rw [c7b0]) | skip)
     have H' := Aside0.mk H
     clear H
     obtain ⟨Ao9, co9, eo9⟩ := Kd.S_slice HO_7.out
     subst eo9
     go_wp2
     go_meet
     case rel => exact ⟨_, (false), (by first | rfl | (simp; done) | (simp [*]; done)), H', ⟨by have := HK1.out; first | omega | exact Nat.le_refl _⟩, ⟨by (with_reducible repeat (first | apply Kd.S_alloc | apply Kd.S_drewN | apply Kd.S_drew)); exact HO_7.out⟩, ⟨by repeat (first | (with_reducible first | exact HB.out | apply below_alloc | apply pw_below_drewN | apply below_drew1) | exact HB.out)⟩⟩
   case rest =>
    clear HC6
    try clear c1
    try clear c2
    try clear p2
    try clear c7
    try clear c7b0
    try clear p2
    obtain ⟨kq, x25_5, rfl, HA, HJ5, HO_7, HB⟩ := hcut
    cases kq with
    | zero => exact absurd HA.out (by simp [sidinglaw18_single.j1])
    | succ kj5 =>
     have H := HA.out
     clear HA
     simp only [sidinglaw18_single.j1] at H
     by_cases c10 : x25_5 = true
     ·subst c10
      have H1 : (sidinglaw18_single.l1 kj5 t232 t233 x9_1 0) = some r := by rw [if_pos rfl] at H; exact H
      clear H
      have H := H1
      clear H1
      have H' := Aside0.mk H
      clear H
      go_wp2
      go_loopg [10] kj5 (fun kq v10 w' => ∃ (x10_3 : Int), v10 = .int .i64 x10_3 ∧ Aside0 (sidinglaw18_single.l1 kq t232 t233 x9_1 x10_3 = some r) ∧ Aside0 (kq ≤ kj5) ∧ Aside0 (Kd.S k34 34 w' w.heap.size (fun _ => True) v234 t232) ∧ Aside0 (Below w.heap.size w w'))
      case atStart => exact ⟨(0), (by first | rfl | (simp; done) | (simp [*]; done)), H', ⟨Nat.le_refl _⟩, ⟨by (with_reducible repeat (first | apply Kd.S_alloc | apply Kd.S_drewN | apply Kd.S_drew)); exact HO_7.out⟩, ⟨by repeat (first | (with_reducible first | exact HB.out | apply below_alloc | apply pw_below_drewN | apply below_drew1) | exact HB.out)⟩⟩
      case round =>
       clear H'
       try clear c1
       try clear c2
       try clear p2
       try clear c7
       try clear c7b0
       try clear c10
       try clear p2
       obtain ⟨x10_3, rfl, HA, HK3, HO_7, HB⟩ := hrel
       cases gk with
       | zero => exact absurd HA.out (by simp [sidinglaw18_single.l1])
       | succ k3 =>
        have H := HA.out
        clear HA
        simp only [sidinglaw18_single.l1] at H
        have HC11 := Aside0.mk H
        clear H
        go_upto_region 6 with (fail)
        go_cut [43] (fun v43 wc => ∃ (kq : Nat) (x43_10 : Bool), v43 = .bool x43_10 ∧ Aside0 (sidinglaw18_single.j3 kq t232 t233 x9_1 x10_3 x43_10 = some r) ∧ Aside0 (kq ≤ k3) ∧ Aside0 (Kd.S k34 34 wc w.heap.size (fun _ => True) v234 t232) ∧ Aside0 (Below w.heap.size w wc))
        case first =>
         have H := HC11.out
         clear HC11
         by_cases c12 : 0 ≤ x9_1
         ·rw [if_pos c12] at H
          have c12b0 : decide (0 ≤ x9_1) = true := decide_eq_true c12
          clear c12
          (first | rw [c12b0] | (simp only [i64_w, i32_w]; rw [c12b0]) | skip)
          by_cases c13 : x9_1 < (t232.length : Int)
          ·rw [if_pos c13] at H
           have c13b0 : decide (x9_1 < (t232.length : Int)) = true := decide_eq_true c13
           clear c13
           by_cases c14 : x10_3 < (((rd_T34 t232 x9_1).f1).length : Int)
           ·rw [if_pos c14] at H
            have c14b0 : decide (x10_3 < (((rd_T34 t232 x9_1).f1).length : Int)) = true := decide_eq_true c14
            clear c14
            have H' := Aside0.mk H
            clear H
            obtain ⟨Ao15, co15, eo15⟩ := Kd.S_slice HO_7.out
            subst eo15
            have p236 : 0 ≤ (x9_1 : Int) := of_decide_eq_true (by first | (with_reducible assumption) | assumption)
            have q236 : x9_1 < (t232.length : Int) := of_decide_eq_true (by first | (with_reducible assumption) | assumption)
            obtain ⟨ad236, A236_1, c236_1, A236_2, c236_2, A236_3, c236_3, e236, hx236_0, hx236_1, hx236_2, hx236_3, hl236_1, hi236_1, hl236_2, hi236_2, hl236_3, hi236_3⟩ := at_T34 (Kd.S_reads' HO_7.out).2.2 x9_1 p236 q236
            cases e236
            obtain ⟨ce236, hce236, hMe236, hcc236⟩ := Kd.S_get HO_7.out z34 x9_1 p236 (by first | exact q236 | exact of_decide_eq_true (by first | (with_reducible assumption) | assumption) | (have e_ := (Kd.S_reads' HO_7.out).1; omega))
            obtain ⟨ve236_1, ve236_2, ve236_3, rfl, ge236_1, ge236_2, ge236_3⟩ := k34_openM hMe236
            have hv236_1 := hcc236 1 _ rfl
            rw [add_field _ _ 1 (by omega)] at hv236_1
            replace hv236_1 := Option.some.inj (hv236_1.symm.trans hx236_1)
            rw [hv236_1] at ge236_1
            have HL236_1 := Aside0.mk (show Kd.R Kd.string 9 _ _ _ _ ((rd_T34 t232 x9_1).f1) from ge236_1)
            clear hv236_1 ge236_1
            have hv236_2 := hcc236 2 _ rfl
            rw [add_field _ _ 2 (by omega)] at hv236_2
            replace hv236_2 := Option.some.inj (hv236_2.symm.trans hx236_2)
            rw [hv236_2] at ge236_2
            have HL236_2 := Aside0.mk (show Kd.R Kd.string 9 _ _ _ _ ((rd_T34 t232 x9_1).f2) from ge236_2)
            clear hv236_2 ge236_2
            have hv236_3 := hcc236 3 _ rfl
            rw [add_field _ _ 3 (by omega)] at hv236_3
            replace hv236_3 := Option.some.inj (hv236_3.symm.trans hx236_3)
            rw [hv236_3] at ge236_3
            have HL236_3 := Aside0.mk (show Kd.R Kd.string 9 _ _ _ _ ((rd_T34 t232 x9_1).f3) from ge236_3)
            clear hv236_3 ge236_3
            clear hcc236 hce236
            have HR236_1 := Aside0.mk hi236_1
            have HC236_1 := Aside0.mk hl236_1
            clear hi236_1 hl236_1
            have HR236_2 := Aside0.mk hi236_2
            have HC236_2 := Aside0.mk hl236_2
            clear hi236_2 hl236_2
            have HR236_3 := Aside0.mk hi236_3
            have HC236_3 := Aside0.mk hl236_3
            clear hi236_3 hl236_3
            replace p236 := eq_true p236
            replace q236 := eq_true q236
            have p237 : 0 ≤ (x9_1 : Int) := of_decide_eq_true (by first | (with_reducible assumption) | assumption)
            have q237 : x9_1 < (t232.length : Int) := of_decide_eq_true (by first | (with_reducible assumption) | assumption)
            obtain ⟨ad237, A237_1, c237_1, A237_2, c237_2, A237_3, c237_3, e237, hx237_0, hx237_1, hx237_2, hx237_3, hl237_1, hi237_1, hl237_2, hi237_2, hl237_3, hi237_3⟩ := at_T34 (Kd.S_reads' HO_7.out).2.2 x9_1 p237 q237
            obtain rfl : ad236 = ad237 := (by injection e237)
            obtain ⟨ce237, hce237, hMe237, hcc237⟩ := Kd.S_get HO_7.out z34 x9_1 p237 (by first | exact q237 | exact of_decide_eq_true (by first | (with_reducible assumption) | assumption) | (have e_ := (Kd.S_reads' HO_7.out).1; omega))
            obtain ⟨ve237_1, ve237_2, ve237_3, rfl, ge237_1, ge237_2, ge237_3⟩ := k34_openM hMe237
            have hv237_1 := hcc237 1 _ rfl
            rw [add_field _ _ 1 (by omega)] at hv237_1
            replace hv237_1 := Option.some.inj (hv237_1.symm.trans hx237_1)
            rw [hv237_1] at ge237_1
            have HL237_1 := Aside0.mk (show Kd.R Kd.string 9 _ _ _ _ ((rd_T34 t232 x9_1).f1) from ge237_1)
            clear hv237_1 ge237_1
            have hv237_2 := hcc237 2 _ rfl
            rw [add_field _ _ 2 (by omega)] at hv237_2
            replace hv237_2 := Option.some.inj (hv237_2.symm.trans hx237_2)
            rw [hv237_2] at ge237_2
            have HL237_2 := Aside0.mk (show Kd.R Kd.string 9 _ _ _ _ ((rd_T34 t232 x9_1).f2) from ge237_2)
            clear hv237_2 ge237_2
            have hv237_3 := hcc237 3 _ rfl
            rw [add_field _ _ 3 (by omega)] at hv237_3
            replace hv237_3 := Option.some.inj (hv237_3.symm.trans hx237_3)
            rw [hv237_3] at ge237_3
            have HL237_3 := Aside0.mk (show Kd.R Kd.string 9 _ _ _ _ ((rd_T34 t232 x9_1).f3) from ge237_3)
            clear hv237_3 ge237_3
            clear hcc237 hce237
            have HR237_1 := Aside0.mk hi237_1
            have HC237_1 := Aside0.mk hl237_1
            clear hi237_1 hl237_1
            have HR237_2 := Aside0.mk hi237_2
            have HC237_2 := Aside0.mk hl237_2
            clear hi237_2 hl237_2
            have HR237_3 := Aside0.mk hi237_3
            have HC237_3 := Aside0.mk hl237_3
            clear hi237_3 hl237_3
            replace p237 := eq_true p237
            replace q237 := eq_true q237
            have ea_ := Option.some.inj (hx236_1.symm.trans hx237_1)
            injection ea_ with ea_ en_ ec_
            subst ea_
            subst ec_
            clear en_
            have ea_ := Option.some.inj (hx236_2.symm.trans hx237_2)
            injection ea_ with ea_ en_ ec_
            subst ea_
            subst ec_
            clear en_
            have ea_ := Option.some.inj (hx236_3.symm.trans hx237_3)
            injection ea_ with ea_ en_ ec_
            subst ea_
            subst ec_
            clear en_
            go_wp2
            go_meet
            case rel => exact ⟨_, ((((rd_T34 t232 x9_1).f0) == 1)), (by first | rfl | (simp; done) | (simp [*]; done)), H', ⟨by have := HK1.out; have := HJ5.out; have := HK3.out; first | omega | exact Nat.le_refl _⟩, ⟨by (with_reducible repeat (first | apply Kd.S_alloc | apply Kd.S_drewN | apply Kd.S_drew)); exact HO_7.out⟩, ⟨by repeat (first | (with_reducible first | exact HB.out | apply below_alloc | apply pw_below_drewN | apply below_drew1) | exact HB.out)⟩⟩
           ·rw [if_neg c14] at H
            have c14b0 : decide (x10_3 < (((rd_T34 t232 x9_1).f1).length : Int)) = false := decide_eq_false c14
            clear c14
            have H' := Aside0.mk H
            clear H
            obtain ⟨Ao16, co16, eo16⟩ := Kd.S_slice HO_7.out
            subst eo16
            have p236 : 0 ≤ (x9_1 : Int) := of_decide_eq_true (by first | (with_reducible assumption) | assumption)
            have q236 : x9_1 < (t232.length : Int) := of_decide_eq_true (by first | (with_reducible assumption) | assumption)
            obtain ⟨ad236, A236_1, c236_1, A236_2, c236_2, A236_3, c236_3, e236, hx236_0, hx236_1, hx236_2, hx236_3, hl236_1, hi236_1, hl236_2, hi236_2, hl236_3, hi236_3⟩ := at_T34 (Kd.S_reads' HO_7.out).2.2 x9_1 p236 q236
            cases e236
            obtain ⟨ce236, hce236, hMe236, hcc236⟩ := Kd.S_get HO_7.out z34 x9_1 p236 (by first | exact q236 | exact of_decide_eq_true (by first | (with_reducible assumption) | assumption) | (have e_ := (Kd.S_reads' HO_7.out).1; omega))
            obtain ⟨ve236_1, ve236_2, ve236_3, rfl, ge236_1, ge236_2, ge236_3⟩ := k34_openM hMe236
            have hv236_1 := hcc236 1 _ rfl
            rw [add_field _ _ 1 (by omega)] at hv236_1
            replace hv236_1 := Option.some.inj (hv236_1.symm.trans hx236_1)
            rw [hv236_1] at ge236_1
            have HL236_1 := Aside0.mk (show Kd.R Kd.string 9 _ _ _ _ ((rd_T34 t232 x9_1).f1) from ge236_1)
            clear hv236_1 ge236_1
            have hv236_2 := hcc236 2 _ rfl
            rw [add_field _ _ 2 (by omega)] at hv236_2
            replace hv236_2 := Option.some.inj (hv236_2.symm.trans hx236_2)
            rw [hv236_2] at ge236_2
            have HL236_2 := Aside0.mk (show Kd.R Kd.string 9 _ _ _ _ ((rd_T34 t232 x9_1).f2) from ge236_2)
            clear hv236_2 ge236_2
            have hv236_3 := hcc236 3 _ rfl
            rw [add_field _ _ 3 (by omega)] at hv236_3
            replace hv236_3 := Option.some.inj (hv236_3.symm.trans hx236_3)
            rw [hv236_3] at ge236_3
            have HL236_3 := Aside0.mk (show Kd.R Kd.string 9 _ _ _ _ ((rd_T34 t232 x9_1).f3) from ge236_3)
            clear hv236_3 ge236_3
            clear hcc236 hce236
            have HR236_1 := Aside0.mk hi236_1
            have HC236_1 := Aside0.mk hl236_1
            clear hi236_1 hl236_1
            have HR236_2 := Aside0.mk hi236_2
            have HC236_2 := Aside0.mk hl236_2
            clear hi236_2 hl236_2
            have HR236_3 := Aside0.mk hi236_3
            have HC236_3 := Aside0.mk hl236_3
            clear hi236_3 hl236_3
            replace p236 := eq_true p236
            replace q236 := eq_true q236
            go_wp2
            go_meet
            case rel => exact ⟨_, (false), (by first | rfl | (simp; done) | (simp [*]; done)), H', ⟨by have := HK1.out; have := HJ5.out; have := HK3.out; first | omega | exact Nat.le_refl _⟩, ⟨by (with_reducible repeat (first | apply Kd.S_alloc | apply Kd.S_drewN | apply Kd.S_drew)); exact HO_7.out⟩, ⟨by repeat (first | (with_reducible first | exact HB.out | apply below_alloc | apply pw_below_drewN | apply below_drew1) | exact HB.out)⟩⟩
          ·rw [if_neg c13] at H
           exact absurd H (by simp)
         ·rw [if_neg c12] at H
          exact absurd H (by simp)
        case rest =>
         clear HC11
         try clear c1
         try clear c2
         try clear p2
         try clear q2
         try clear hx2
         try clear c7
         try clear c7b0
         try clear c10
         try clear c12
         try clear c12b0
         try clear c13
         try clear c13b0
         try clear c14
         try clear c14b0
         try clear hx236_0
         try clear hx236_1
         try clear hx236_2
         try clear hx236_3
         try clear hx237_0
         try clear hx237_1
         try clear hx237_2
         try clear hx237_3
         try clear p2
         try clear p236
         try clear p237
         try clear q236
         try clear q237
         obtain ⟨kq, x43_10, rfl, HA, HJ10, HO_7, HB⟩ := hcut
         cases kq with
         | zero => exact absurd HA.out (by simp [sidinglaw18_single.j3])
         | succ kj10 =>
          have H := HA.out
          clear HA
          simp only [sidinglaw18_single.j3] at H
          by_cases c17 : x43_10 = true
          ·subst c17
           have H1 : (if 0 ≤ x9_1 then (if x9_1 < (t232.length : Int) then (if 0 ≤ x10_3 then (if x10_3 < (((rd_T34 t232 x9_1).f1).length : Int) then (if (rdOf ByteArray.empty ((rd_T34 t232 x9_1).f1) x10_3).toList = ([98, 101, 116, 119, 101, 101, 110] : List UInt8) then (some true) else (sidinglaw18_single.l1 kj10 t232 t233 x9_1 (wrap64 (x10_3 + 1)))) else (none)) else (none)) else (none)) else (none)) = some r := by rw [if_pos rfl] at H; exact H
           clear H
           have H := H1
           clear H1
           by_cases c18 : 0 ≤ x9_1
           ·rw [if_pos c18] at H
            have c18b0 : decide (0 ≤ x9_1) = true := decide_eq_true c18
            clear c18
            by_cases c19 : x9_1 < (t232.length : Int)
            ·rw [if_pos c19] at H
             have c19b0 : decide (x9_1 < (t232.length : Int)) = true := decide_eq_true c19
             clear c19
             by_cases c20 : 0 ≤ x10_3
             ·rw [if_pos c20] at H
              have c20b0 : decide (0 ≤ x10_3) = true := decide_eq_true c20
              clear c20
              by_cases c21 : x10_3 < (((rd_T34 t232 x9_1).f1).length : Int)
              ·rw [if_pos c21] at H
               have c21b0 : decide (x10_3 < (((rd_T34 t232 x9_1).f1).length : Int)) = true := decide_eq_true c21
               clear c21
               by_cases c22 : (rdOf ByteArray.empty ((rd_T34 t232 x9_1).f1) x10_3).toList = ([98, 101, 116, 119, 101, 101, 110] : List UInt8)
               ·rw [if_pos c22] at H
                have c22b0 : ((rdOf ByteArray.empty ((rd_T34 t232 x9_1).f1) x10_3).toList == ([98, 101, 116, 119, 101, 101, 110] : List UInt8)) = true := beq_iff_eq.mpr c22
                have c22b1 : ((rdOf ByteArray.empty ((rd_T34 t232 x9_1).f1) x10_3).toList != ([98, 101, 116, 119, 101, 101, 110] : List UInt8)) = false := bne_eq_false_iff_eq.mpr c22
                clear c22
                obtain rfl := Option.some.inj H
                obtain ⟨Ao23, co23, eo23⟩ := Kd.S_slice HO_7.out
                subst eo23
                have p238 : 0 ≤ (x9_1 : Int) := of_decide_eq_true (by first | (with_reducible assumption) | assumption)
                have q238 : x9_1 < (t232.length : Int) := of_decide_eq_true (by first | (with_reducible assumption) | assumption)
                obtain ⟨ad238, A238_1, c238_1, A238_2, c238_2, A238_3, c238_3, e238, hx238_0, hx238_1, hx238_2, hx238_3, hl238_1, hi238_1, hl238_2, hi238_2, hl238_3, hi238_3⟩ := at_T34 (Kd.S_reads' HO_7.out).2.2 x9_1 p238 q238
                cases e238
                obtain ⟨ce238, hce238, hMe238, hcc238⟩ := Kd.S_get HO_7.out z34 x9_1 p238 (by first | exact q238 | exact of_decide_eq_true (by first | (with_reducible assumption) | assumption) | (have e_ := (Kd.S_reads' HO_7.out).1; omega))
                obtain ⟨ve238_1, ve238_2, ve238_3, rfl, ge238_1, ge238_2, ge238_3⟩ := k34_openM hMe238
                have hv238_1 := hcc238 1 _ rfl
                rw [add_field _ _ 1 (by omega)] at hv238_1
                replace hv238_1 := Option.some.inj (hv238_1.symm.trans hx238_1)
                rw [hv238_1] at ge238_1
                have HL238_1 := Aside0.mk (show Kd.R Kd.string 9 _ _ _ _ ((rd_T34 t232 x9_1).f1) from ge238_1)
                clear hv238_1 ge238_1
                have hv238_2 := hcc238 2 _ rfl
                rw [add_field _ _ 2 (by omega)] at hv238_2
                replace hv238_2 := Option.some.inj (hv238_2.symm.trans hx238_2)
                rw [hv238_2] at ge238_2
                have HL238_2 := Aside0.mk (show Kd.R Kd.string 9 _ _ _ _ ((rd_T34 t232 x9_1).f2) from ge238_2)
                clear hv238_2 ge238_2
                have hv238_3 := hcc238 3 _ rfl
                rw [add_field _ _ 3 (by omega)] at hv238_3
                replace hv238_3 := Option.some.inj (hv238_3.symm.trans hx238_3)
                rw [hv238_3] at ge238_3
                have HL238_3 := Aside0.mk (show Kd.R Kd.string 9 _ _ _ _ ((rd_T34 t232 x9_1).f3) from ge238_3)
                clear hv238_3 ge238_3
                clear hcc238 hce238
                have HR238_1 := Aside0.mk hi238_1
                have HC238_1 := Aside0.mk hl238_1
                clear hi238_1 hl238_1
                have HR238_2 := Aside0.mk hi238_2
                have HC238_2 := Aside0.mk hl238_2
                clear hi238_2 hl238_2
                have HR238_3 := Aside0.mk hi238_3
                have HC238_3 := Aside0.mk hl238_3
                clear hi238_3 hl238_3
                replace p238 := eq_true p238
                replace q238 := eq_true q238
                have p239 : 0 ≤ (x10_3 : Int) := of_decide_eq_true (by first | (with_reducible assumption) | assumption)
                have q239 : x10_3 < (((rd_T34 t232 x9_1).f1).length : Int) := of_decide_eq_true (by first | (with_reducible assumption) | assumption)
                obtain ⟨ad239, e239, hx239_0⟩ := Kd.at_string (by repeat (first | (with_reducible exact HR238_1.out) | (with_reducible refine Kd.C_alloc ?_ _) | (with_reducible refine Kd.C_drewN ?_ _) | (with_reducible refine Kd.C_drew ?_) | exact HR238_1.out)) x10_3 p239 q239
                cases e239
                replace p239 := eq_true p239
                replace q239 := eq_true q239
                go_wp2
                go_ret
                exact ⟨by first | rfl | (simp [errW_none, errW_some] <;> rfl) | (simp [*, errW_none, errW_some] <;> rfl), by repeat (first | (with_reducible first | exact HB.out | apply below_alloc | apply pw_below_drewN | apply below_drew1) | exact HB.out)⟩
               ·rw [if_neg c22] at H
                have c22b0 : ((rdOf ByteArray.empty ((rd_T34 t232 x9_1).f1) x10_3).toList == ([98, 101, 116, 119, 101, 101, 110] : List UInt8)) = false := beq_eq_false_iff_ne.mpr c22
                have c22b1 : ((rdOf ByteArray.empty ((rd_T34 t232 x9_1).f1) x10_3).toList != ([98, 101, 116, 119, 101, 101, 110] : List UInt8)) = true := bne_iff_ne.mpr c22
                have H' := Aside0.mk H
                clear H
                obtain ⟨Ao24, co24, eo24⟩ := Kd.S_slice HO_7.out
                subst eo24
                have p238 : 0 ≤ (x9_1 : Int) := of_decide_eq_true (by first | (with_reducible assumption) | assumption)
                have q238 : x9_1 < (t232.length : Int) := of_decide_eq_true (by first | (with_reducible assumption) | assumption)
                obtain ⟨ad238, A238_1, c238_1, A238_2, c238_2, A238_3, c238_3, e238, hx238_0, hx238_1, hx238_2, hx238_3, hl238_1, hi238_1, hl238_2, hi238_2, hl238_3, hi238_3⟩ := at_T34 (Kd.S_reads' HO_7.out).2.2 x9_1 p238 q238
                cases e238
                obtain ⟨ce238, hce238, hMe238, hcc238⟩ := Kd.S_get HO_7.out z34 x9_1 p238 (by first | exact q238 | exact of_decide_eq_true (by first | (with_reducible assumption) | assumption) | (have e_ := (Kd.S_reads' HO_7.out).1; omega))
                obtain ⟨ve238_1, ve238_2, ve238_3, rfl, ge238_1, ge238_2, ge238_3⟩ := k34_openM hMe238
                have hv238_1 := hcc238 1 _ rfl
                rw [add_field _ _ 1 (by omega)] at hv238_1
                replace hv238_1 := Option.some.inj (hv238_1.symm.trans hx238_1)
                rw [hv238_1] at ge238_1
                have HL238_1 := Aside0.mk (show Kd.R Kd.string 9 _ _ _ _ ((rd_T34 t232 x9_1).f1) from ge238_1)
                clear hv238_1 ge238_1
                have hv238_2 := hcc238 2 _ rfl
                rw [add_field _ _ 2 (by omega)] at hv238_2
                replace hv238_2 := Option.some.inj (hv238_2.symm.trans hx238_2)
                rw [hv238_2] at ge238_2
                have HL238_2 := Aside0.mk (show Kd.R Kd.string 9 _ _ _ _ ((rd_T34 t232 x9_1).f2) from ge238_2)
                clear hv238_2 ge238_2
                have hv238_3 := hcc238 3 _ rfl
                rw [add_field _ _ 3 (by omega)] at hv238_3
                replace hv238_3 := Option.some.inj (hv238_3.symm.trans hx238_3)
                rw [hv238_3] at ge238_3
                have HL238_3 := Aside0.mk (show Kd.R Kd.string 9 _ _ _ _ ((rd_T34 t232 x9_1).f3) from ge238_3)
                clear hv238_3 ge238_3
                clear hcc238 hce238
                have HR238_1 := Aside0.mk hi238_1
                have HC238_1 := Aside0.mk hl238_1
                clear hi238_1 hl238_1
                have HR238_2 := Aside0.mk hi238_2
                have HC238_2 := Aside0.mk hl238_2
                clear hi238_2 hl238_2
                have HR238_3 := Aside0.mk hi238_3
                have HC238_3 := Aside0.mk hl238_3
                clear hi238_3 hl238_3
                replace p238 := eq_true p238
                replace q238 := eq_true q238
                have p239 : 0 ≤ (x10_3 : Int) := of_decide_eq_true (by first | (with_reducible assumption) | assumption)
                have q239 : x10_3 < (((rd_T34 t232 x9_1).f1).length : Int) := of_decide_eq_true (by first | (with_reducible assumption) | assumption)
                obtain ⟨ad239, e239, hx239_0⟩ := Kd.at_string (by repeat (first | (with_reducible exact HR238_1.out) | (with_reducible refine Kd.C_alloc ?_ _) | (with_reducible refine Kd.C_drewN ?_ _) | (with_reducible refine Kd.C_drew ?_) | exact HR238_1.out)) x10_3 p239 q239
                cases e239
                replace p239 := eq_true p239
                replace q239 := eq_true q239
                go_wp2
                go_roundg kj10
                case measure => have := HK1.out; have := HJ5.out; have := HK3.out; have := HJ10.out; omega
                case rel => exact ⟨(wrap64 (x10_3 + 1)), (by first | rfl | (simp; done) | (simp [*]; done)), H', ⟨by have := HK1.out; have := HJ5.out; have := HK3.out; have := HJ10.out; omega⟩, ⟨by (with_reducible repeat (first | apply Kd.S_alloc | apply Kd.S_drewN | apply Kd.S_drew)); exact HO_7.out⟩, ⟨by repeat (first | (with_reducible first | exact HB.out | apply below_alloc | apply pw_below_drewN | apply below_drew1) | exact HB.out)⟩⟩
              ·rw [if_neg c21] at H
               exact absurd H (by simp)
             ·rw [if_neg c20] at H
              exact absurd H (by simp)
            ·rw [if_neg c19] at H
             exact absurd H (by simp)
           ·rw [if_neg c18] at H
            exact absurd H (by simp)
          ·replace c17 := Bool.eq_false_iff.mpr c17
           subst c17
           have H1 : (sidinglaw18_single.l0 kj10 t232 t233 (wrap64 (x9_1 + 1))) = some r := by rw [if_neg (show ¬ (false = true) by decide)] at H; exact H
           clear H
           have H := H1
           clear H1
           have H' := Aside0.mk H
           clear H
           go_wp2
           go_roundg kj10
           case measure => have := HK1.out; have := HJ5.out; have := HK3.out; have := HJ10.out; omega
           case rel => exact ⟨(wrap64 (x9_1 + 1)), (by first | rfl | (simp; done) | (simp [*]; done)), H', ⟨by have := HK1.out; have := HJ5.out; have := HK3.out; have := HJ10.out; omega⟩, ⟨by (with_reducible repeat (first | apply Kd.S_alloc | apply Kd.S_drewN | apply Kd.S_drew)); exact HO_7.out⟩, ⟨by repeat (first | (with_reducible first | exact HB.out | apply below_alloc | apply pw_below_drewN | apply below_drew1) | exact HB.out)⟩⟩
     ·replace c10 := Bool.eq_false_iff.mpr c10
      subst c10
      have H1 : (some false) = some r := by rw [if_neg (show ¬ (false = true) by decide)] at H; exact H
      clear H
      have H := H1
      clear H1
      obtain rfl := Option.some.inj H
      go_wp2
      go_ret
      exact ⟨by first | rfl | (simp [errW_none, errW_some] <;> rfl) | (simp [*, errW_none, errW_some] <;> rfl), by repeat (first | (with_reducible first | exact HB.out | apply below_alloc | apply pw_below_drewN | apply below_drew1) | exact HB.out)⟩
end Go.Proofs.Ytahpbpacjciddaa.Pr
end
section
namespace Go.Proofs.Ytahpbpacjciddaa.Pr
open Go.RowKit Go.Proofs.YtahpbpacjciddaaW.PrintWords Go.Proofs.YtahpbpacjciddaaW.PrintLast Go.Proofs.YtahpbpacjciddaaW.PrintMore
attribute [local go_sem] max2_int min2_int max_two min_two max_three min_three max_four min_four   
def sidinglaw18_gives.f (k : Nat) (l0 : List ByteArray) (l1 : List ByteArray) (l2 : List ByteArray) (l3 : List ByteArray) : Option (Bool) := (merge_Merge.f k l0 l1 l2).bind fun bt163 => ((merge_Clashes.f k bt163.1).bind fun bt167 => ((merge_Result.f k bt163.1).bind fun bt169 => (if bt163.2 = 0 then (if bt167.2 = 0 then (if bt167.1 = 0 then (if bt169.2 = 0 then ((sidingref13_Same.f k bt169.1 l3).bind fun t173 => (some t173)) else (some false)) else (some false)) else (some false)) else (some false))))
set_option maxHeartbeats 8000000 in
set_option maxRecDepth 100000 in
theorem sidinglaw18_gives.calls (k : Nat) (A0 : Option Addr) (c0 : Nat) (l0 : List ByteArray) (A1 : Option Addr) (c1 : Nat) (l1 : List ByteArray) (A2 : Option Addr) (c2 : Nat) (l2 : List ByteArray) (A3 : Option Addr) (c3 : Nat) (l3 : List ByteArray) (r : Bool) (w : World) (hr0 : Kd.C Kd.string w A0 l0.length l0) (hc0 : l0.length ≤ c0) (hr1 : Kd.C Kd.string w A1 l1.length l1) (hc1 : l1.length ≤ c1) (hr2 : Kd.C Kd.string w A2 l2.length l2) (hc2 : l2.length ≤ c2) (hr3 : Kd.C Kd.string w A3 l3.length l3) (hc3 : l3.length ≤ c3) (h : sidinglaw18_gives.f k l0 l1 l2 l3 = some r) (hr_ : Aside0 (r = true)) :
  Calls Try.prog 19 #[.slice A0 l0.length c0, .slice A1 l1.length c1, .slice A2 l2.length c2, .slice A3 l3.length c3] w fun e w' => e = .returned (.bool r) ∧ Below w.heap.size w w' := by
 have HR0 := Aside0.mk hr0
 have HC0 := Aside0.mk hc0
 clear hr0 hc0
 have HR1 := Aside0.mk hr1
 have HC1 := Aside0.mk hc1
 clear hr1 hc1
 have HR2 := Aside0.mk hr2
 have HC2 := Aside0.mk hc2
 clear hr2 hc2
 have HR3 := Aside0.mk hr3
 have HC3 := Aside0.mk hc3
 clear hr3 hc3
 have HB := Aside0.mk (Below.refl w.heap.size w)
 have H : ((merge_Merge.f k l0 l1 l2).bind fun bt163 => ((merge_Clashes.f k bt163.1).bind fun bt167 => ((merge_Result.f k bt163.1).bind fun bt169 => (if bt163.2 = 0 then (if bt167.2 = 0 then (if bt167.1 = 0 then (if bt169.2 = 0 then ((sidingref13_Same.f k bt169.1 l3).bind fun t173 => (some t173)) else (some false)) else (some false)) else (some false)) else (some false))))) = some r := h
 clear h
 replace H := Option.bind_eq_some_iff.mp H
 obtain ⟨⟨t163, t164⟩, A50, H⟩ := H
 replace H : ((merge_Clashes.f k t163).bind fun bt167 => ((merge_Result.f k t163).bind fun bt169 => (if t164 = 0 then (if bt167.2 = 0 then (if bt167.1 = 0 then (if bt169.2 = 0 then ((sidingref13_Same.f k bt169.1 l3).bind fun t173 => (some t173)) else (some false)) else (some false)) else (some false)) else (some false)))) = some r := H
 have A5 := Aside0.mk A50
 clear A50
 replace H := Option.bind_eq_some_iff.mp H
 obtain ⟨⟨t167, t168⟩, A60, H⟩ := H
 replace H : ((merge_Result.f k t163).bind fun bt169 => (if t164 = 0 then (if t168 = 0 then (if t167 = 0 then (if bt169.2 = 0 then ((sidingref13_Same.f k bt169.1 l3).bind fun t173 => (some t173)) else (some false)) else (some false)) else (some false)) else (some false))) = some r := H
 have A6 := Aside0.mk A60
 clear A60
 replace H := Option.bind_eq_some_iff.mp H
 obtain ⟨⟨t169, t170⟩, A70, H⟩ := H
 replace H : (if t164 = 0 then (if t168 = 0 then (if t167 = 0 then (if t170 = 0 then ((sidingref13_Same.f k t169 l3).bind fun t173 => (some t173)) else (some false)) else (some false)) else (some false)) else (some false)) = some r := H
 have A7 := Aside0.mk A70
 clear A70
 by_cases c8 : t164 = 0
 ·rw [if_pos c8] at H
  have c8b0 : (t164 == 0) = true := beq_iff_eq.mpr c8
  have c8b1 : (t164 != 0) = false := bne_eq_false_iff_eq.mpr c8
  clear c8
  by_cases c9 : t168 = 0
  ·rw [if_pos c9] at H
   have c9b0 : (t168 == 0) = true := beq_iff_eq.mpr c9
   have c9b1 : (t168 != 0) = false := bne_eq_false_iff_eq.mpr c9
   clear c9
   by_cases c10 : t167 = 0
   ·rw [if_pos c10] at H
    have c10b0 : (t167 == 0) = true := beq_iff_eq.mpr c10
    have c10b1 : (t167 != 0) = false := bne_eq_false_iff_eq.mpr c10
    clear c10
    by_cases c11 : t170 = 0
    ·rw [if_pos c11] at H
     have c11b0 : (t170 == 0) = true := beq_iff_eq.mpr c11
     have c11b1 : (t170 != 0) = false := bne_eq_false_iff_eq.mpr c11
     clear c11
     replace H := Option.bind_eq_some_iff.mp H
     obtain ⟨t173, A120, H⟩ := H
     replace H : (some t173) = some r := H
     have A12 := Aside0.mk A120
     clear A120
     obtain rfl := Option.some.inj H
     go_enter Try.func19, Try.ntmps19
     go_wp2_with (first | ((with_reducible refine gate_callee (f := 9) rfl ?_); refine goesL_ (some 19) rfl rfl Try.func9 (by kernel_rfl) rfl #[.slice A0 l0.length c0, .slice A1 l1.length c1, .slice A2 l2.length c2] rfl (by (try simp only [List.map_toArray, List.map_cons, List.map_nil]); first | done | rfl | (simp only [List.length_drop, List.length_take]; rfl)) ?_; (with_reducible refine (merge_Merge.calls k _ _ l0 _ _ l1 _ _ l2 t163 t164 _ ?side1 ?side2 ?side3 ?side4 ?side5 ?side6 A5.out).mono ?_); (case side1 => repeat (first | exact HR0.out | (with_reducible refine Kd.C_alloc ?_ _) | (with_reducible refine Kd.C_drewN ?_ _) | (with_reducible refine Kd.C_drew ?_))); (case side2 => exact HC0.out); (case side3 => repeat (first | exact HR1.out | (with_reducible refine Kd.C_alloc ?_ _) | (with_reducible refine Kd.C_drewN ?_ _) | (with_reducible refine Kd.C_drew ?_))); (case side4 => exact HC1.out); (case side5 => repeat (first | exact HR2.out | (with_reducible refine Kd.C_alloc ?_ _) | (with_reducible refine Kd.C_drewN ?_ _) | (with_reducible refine Kd.C_drew ?_))); (case side6 => exact HC2.out); rintro e w13 ⟨v165, rfl, ho0, hb⟩; refine ⟨_, rfl, ?_⟩; have n0_ := Aside0.mk (Kd.S_lower ho0 (below_size (by repeat (first | (with_reducible first | exact HB.out | apply below_alloc | apply pw_below_drewN | apply below_drew1) | exact HB.out)))); have n1_ := Aside0.mk (below_step (by repeat (first | (with_reducible first | exact HB.out | apply below_alloc | apply pw_below_drewN | apply below_drew1) | exact HB.out)) hb); clear HB; have HO166 := n0_; have HB := n1_; clear n0_ n1_; (try clear hb); (try clear hb2); (try clear hk); (try clear hi); (try clear ho0); obtain ⟨Ao14, co14, eo14⟩ := Kd.S_slice HO166.out; subst eo14) | ((with_reducible refine gate_callee (f := 21) rfl ?_); refine goesL_ (some 24) rfl rfl Try.func21 (by kernel_rfl) rfl #[.slice Ao14 t163.length co14] rfl (by (try simp only [List.map_toArray, List.map_cons, List.map_nil]); first | done | rfl | (simp only [List.length_drop, List.length_take]; rfl)) ?_; (with_reducible refine (merge_Clashes.calls k _ _ t163 t167 t168 _ ?side1 ?side2 A6.out).mono ?_); (case side1 => repeat (first | exact (Kd.S_reads' HO166.out).2.2 | (with_reducible refine Kd.C_alloc ?_ _) | (with_reducible refine Kd.C_drewN ?_ _) | (with_reducible refine Kd.C_drew ?_))); (case side2 => exact (Kd.S_reads' HO166.out).2.1); rintro e w15 ⟨rfl, hb⟩; refine ⟨_, rfl, ?_⟩; have n0_ := Aside0.mk (Kd.S_below (by (with_reducible repeat (first | apply Kd.S_alloc | apply Kd.S_drewN | apply Kd.S_drew)); exact HO166.out) hb); have n1_ := Aside0.mk (below_step (by repeat (first | (with_reducible first | exact HB.out | apply below_alloc | apply pw_below_drewN | apply below_drew1) | exact HB.out)) hb); clear HO166; clear HB; have HO166 := n0_; have HB := n1_; clear n0_ n1_; (try clear hb); (try clear hb2); (try clear hk); (try clear hi)) | ((with_reducible refine gate_callee (f := 15) rfl ?_); refine goesL_ (some 29) rfl rfl Try.func15 (by kernel_rfl) rfl #[.slice Ao14 t163.length co14] rfl (by (try simp only [List.map_toArray, List.map_cons, List.map_nil]); first | done | rfl | (simp only [List.length_drop, List.length_take]; rfl)) ?_; (with_reducible refine (merge_Result.calls k _ _ t163 t169 t170 _ ?side1 ?side2 A7.out).mono ?_); (case side1 => repeat (first | exact (Kd.S_reads' HO166.out).2.2 | (with_reducible refine Kd.C_alloc ?_ _) | (with_reducible refine Kd.C_drewN ?_ _) | (with_reducible refine Kd.C_drew ?_))); (case side2 => exact (Kd.S_reads' HO166.out).2.1); rintro e w16 ⟨v171, rfl, ho0, hb⟩; refine ⟨_, rfl, ?_⟩; have n0_ := Aside0.mk (Kd.S_elder' (by (with_reducible repeat (first | apply Kd.S_alloc | apply Kd.S_drewN | apply Kd.S_drew)); exact HO166.out) (Kd.R_base ho0) hb); have n1_ := Aside0.mk (Kd.R_lower ho0 (below_size (by repeat (first | (with_reducible first | exact HB.out | apply below_alloc | apply pw_below_drewN | apply below_drew1) | exact HB.out)))); have n2_ := Aside0.mk (below_step (by repeat (first | (with_reducible first | exact HB.out | apply below_alloc | apply pw_below_drewN | apply below_drew1) | exact HB.out)) hb); clear HO166; clear HB; have HO166 := n0_; have HO172 := n1_; have HB := n2_; clear n0_ n1_ n2_; (try clear hb); (try clear hb2); (try clear hk); (try clear hi); (try clear ho0); obtain ⟨Ao17, co17, eo17⟩ := Kd.R_slice HO172.out; subst eo17) | (go_at_call 12; (with_reducible refine (sidingref13_Same.calls k _ _ t169 _ _ l3 t173 _ ?side1 ?side2 ?side3 ?side4 A12.out).mono ?_); (case side1 => repeat (first | exact (Kd.R_reads' HO172.out).2.2 | (with_reducible refine Kd.C_alloc ?_ _) | (with_reducible refine Kd.C_drewN ?_ _) | (with_reducible refine Kd.C_drew ?_))); (case side2 => exact (Kd.R_reads' HO172.out).2.1); (case side3 => repeat (first | exact (Kd.C_below HR3.out HB.out) | (with_reducible refine Kd.C_alloc ?_ _) | (with_reducible refine Kd.C_drewN ?_ _) | (with_reducible refine Kd.C_drew ?_))); (case side4 => exact HC3.out); rintro e w' ⟨rfl, ⟨nd, rfl⟩⟩))
     go_ret
     exact ⟨by first | rfl | (simp [errW_none, errW_some] <;> rfl) | (simp [*, errW_none, errW_some] <;> rfl), by repeat (first | (with_reducible first | exact HB.out | apply below_alloc | apply pw_below_drewN | apply below_drew1) | exact HB.out)⟩
    ·rw [if_neg c11] at H
     have c11b0 : (t170 == 0) = false := beq_eq_false_iff_ne.mpr c11
     have c11b1 : (t170 != 0) = true := bne_iff_ne.mpr c11
     exact absurd ((Option.some.inj H).trans hr_.out) (by decide)
   ·rw [if_neg c10] at H
    have c10b0 : (t167 == 0) = false := beq_eq_false_iff_ne.mpr c10
    have c10b1 : (t167 != 0) = true := bne_iff_ne.mpr c10
    exact absurd ((Option.some.inj H).trans hr_.out) (by decide)
  ·rw [if_neg c9] at H
   have c9b0 : (t168 == 0) = false := beq_eq_false_iff_ne.mpr c9
   have c9b1 : (t168 != 0) = true := bne_iff_ne.mpr c9
   exact absurd ((Option.some.inj H).trans hr_.out) (by decide)
 ·rw [if_neg c8] at H
  have c8b0 : (t164 == 0) = false := beq_eq_false_iff_ne.mpr c8
  have c8b1 : (t164 != 0) = true := bne_iff_ne.mpr c8
  exact absurd ((Option.some.inj H).trans hr_.out) (by decide)
end Go.Proofs.Ytahpbpacjciddaa.Pr
end
