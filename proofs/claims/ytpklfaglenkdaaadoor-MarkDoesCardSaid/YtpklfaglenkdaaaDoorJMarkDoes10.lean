/- Part 10 of the proof of MarkDoes: texts put together. -/
import Derived.Test.YtpklfaglenkdaaaDoorJMarkDoes4
import Derived.Test.YtpklfaglenkdaaaDoorJMarkDoes9
import Derived.IntWalk
import Derived.Deep.RegionHeld3
import Derived.Lib.Join
set_option linter.unusedVariables false
set_option linter.unusedSimpArgs false
section
namespace Go.Proofs.YtpklfaglenkdaaaDoor.Pr
open Go.RowKit Go.Proofs.YtpklfaglenkdaaaDoorW.PrintWords Go.Proofs.YtpklfaglenkdaaaDoorW.PrintLast Go.Proofs.YtpklfaglenkdaaaDoorW.PrintMore
def mplainB (l : List ByteArray) : Bool := decide (l.length ≤ 60) && !l.any widey
def mbad (x : S43) : Bool := !mplainB x.f1 || (!mplainB x.f2 || (!mplainB x.f3 || (decide (x.f0 ≠ kindB x.f1 x.f2 x.f3) || decide (x.f1.length + x.f2.length + x.f3.length = 0))))
def merge_Check.f (l0 : List S43) : Option Int := some (if 130 < l0.length then 4 else if l0.any mbad = true then 8 else 0)
theorem mplain_any (A0 : Option Addr) (c0 : Nat) (l0 : List ByteArray) (w : World) (hr0 : Kd.C Kd.string w A0 l0.length l0) (hc0 : l0.length ≤ c0) :
    Calls Tryd.prog 47 #[.slice A0 l0.length c0] w fun e w' => e = .returned (.bool (mplainB l0)) ∧ Drawn0 w w' := merge_plain.calls A0 c0 l0 _ w hr0 hc0 rfl
theorem mplain_len {l : List ByteArray} (h : mplainB l = true) : l.length ≤ 60 := by
  simp only [mplainB, Bool.and_eq_true, decide_eq_true_eq] at h
  exact h.1
abbrev merge_Check.Bz0 : Array Bool := #[false, false, false, false, false, false, false, false, false, false, false, false, false, false, false, false, false, false, false, false, false, false, false, false, false, false, false, false, false, false, false, false, false, false, false, false, false]
abbrev merge_Check.Bz1 : Array Bool := #[true, false, false, false, false, false, false, false, false, false, false, false, false, false, false, false, false, false, false, false, false, false, false, false, false, false, false, false, false, false, false, false, false, false, false, false, false]
abbrev merge_Check.Bz2 : Array Bool := #[true, true, false, false, false, false, false, false, false, false, false, false, false, false, false, false, false, false, false, false, false, false, false, false, false, false, false, false, false, false, false, false, false, false, false, false, false]
abbrev merge_Check.Bz3 : Array Bool := #[true, true, true, false, false, false, false, false, false, false, false, false, false, false, false, false, false, false, false, false, false, false, false, false, false, false, false, false, false, false, false, false, false, false, false, false, false]
abbrev merge_Check.Bz4 : Array Bool := #[true, true, true, true, false, false, false, false, false, false, false, false, false, false, false, false, false, false, false, false, false, false, false, false, false, false, false, false, false, false, false, false, false, false, false, false, false]
abbrev merge_Check.Bz5 : Array Bool := #[true, true, true, true, true, false, false, false, false, false, false, false, false, false, false, false, false, false, false, false, false, false, false, false, false, false, false, false, false, false, false, false, false, false, false, false, false]
abbrev merge_Check.Bz6 : Array Bool := #[true, true, true, true, true, true, false, false, false, false, false, false, false, false, false, false, false, false, false, false, false, false, false, false, false, false, false, false, false, false, false, false, false, false, false, false, false]
abbrev merge_Check.Bz7 : Array Bool := #[true, true, true, true, true, true, true, false, false, false, false, false, false, false, false, false, false, false, false, false, false, false, false, false, false, false, false, false, false, false, false, false, false, false, false, false, false]
abbrev merge_Check.Bz8 : Array Bool := #[true, true, true, true, true, true, true, true, false, false, false, false, false, false, false, false, false, false, false, false, false, false, false, false, false, false, false, false, false, false, false, false, false, false, false, false, false]
abbrev merge_Check.Bz9 : Array Bool := #[true, true, true, true, true, true, true, true, true, false, false, false, false, false, false, false, false, false, false, false, false, false, false, false, false, false, false, false, false, false, false, false, false, false, false, false, false]
abbrev merge_Check.Bz10 : Array Bool := #[true, true, true, true, true, true, true, true, true, true, false, false, false, false, false, false, false, false, false, false, false, false, false, false, false, false, false, false, false, false, false, false, false, false, false, false, false]
abbrev merge_Check.Bz11 : Array Bool := #[true, true, true, true, true, true, true, true, true, true, true, false, false, false, false, false, false, false, false, false, false, false, false, false, false, false, false, false, false, false, false, false, false, false, false, false, false]
abbrev merge_Check.Bz12 : Array Bool := #[true, true, true, true, true, true, true, true, true, true, true, true, false, false, false, false, false, false, false, false, false, false, false, false, false, false, false, false, false, false, false, false, false, false, false, false, false]
abbrev merge_Check.Bz13 : Array Bool := #[true, true, true, true, true, true, true, true, true, true, true, true, true, false, false, false, false, false, false, false, false, false, false, false, false, false, false, false, false, false, false, false, false, false, false, false, false]
abbrev merge_Check.Bz14 : Array Bool := #[true, true, true, true, true, true, true, true, true, true, true, true, true, true, false, false, false, false, false, false, false, false, false, false, false, false, false, false, false, false, false, false, false, false, false, false, false]
abbrev merge_Check.Bz15 : Array Bool := #[true, true, true, true, true, true, true, true, true, true, true, true, true, true, true, false, false, false, false, false, false, false, false, false, false, false, false, false, false, false, false, false, false, false, false, false, false]
abbrev merge_Check.Bz16 : Array Bool := #[true, true, true, true, true, true, true, true, true, true, true, true, true, true, true, true, false, false, false, false, false, false, false, false, false, false, false, false, false, false, false, false, false, false, false, false, false]
abbrev merge_Check.Bz17 : Array Bool := #[true, true, true, true, true, true, true, true, true, true, true, true, true, true, true, true, true, false, false, false, false, false, false, false, false, false, false, false, false, false, false, false, false, false, false, false, false]
abbrev merge_Check.Bz18 : Array Bool := #[true, true, true, true, true, true, true, true, true, true, true, true, true, true, true, true, true, true, false, false, false, false, false, false, false, false, false, false, false, false, false, false, false, false, false, false, false]
abbrev merge_Check.Bz19 : Array Bool := #[true, true, true, true, true, true, true, true, true, true, true, true, true, true, true, true, true, true, true, false, false, false, false, false, false, false, false, false, false, false, false, false, false, false, false, false, false]
abbrev merge_Check.Bz20 : Array Bool := #[true, true, true, true, true, true, true, true, true, true, true, true, true, true, true, true, true, true, true, true, false, false, false, false, false, false, false, false, false, false, false, false, false, false, false, false, false]
abbrev merge_Check.Bz21 : Array Bool := #[true, true, true, true, true, true, true, true, true, true, true, true, true, true, true, true, true, true, true, true, true, false, false, false, false, false, false, false, false, false, false, false, false, false, false, false, false]
abbrev merge_Check.Bz22 : Array Bool := #[true, true, true, true, true, true, true, true, true, true, true, true, true, true, true, true, true, true, true, true, true, true, false, false, false, false, false, false, false, false, false, false, false, false, false, false, false]
abbrev merge_Check.Bz23 : Array Bool := #[true, true, true, true, true, true, true, true, true, true, true, true, true, true, true, true, true, true, true, true, true, true, true, false, false, false, false, false, false, false, false, false, false, false, false, false, false]
abbrev merge_Check.Bz24 : Array Bool := #[true, true, true, true, true, true, true, true, true, true, true, true, true, true, true, true, true, true, true, true, true, true, true, true, false, false, false, false, false, false, false, false, false, false, false, false, false]
abbrev merge_Check.Bz25 : Array Bool := #[true, true, true, true, true, true, true, true, true, true, true, true, true, true, true, true, true, true, true, true, true, true, true, true, true, false, false, false, false, false, false, false, false, false, false, false, false]
abbrev merge_Check.Bz26 : Array Bool := #[true, true, true, true, true, true, true, true, true, true, true, true, true, true, true, true, true, true, true, true, true, true, true, true, true, true, false, false, false, false, false, false, false, false, false, false, false]
abbrev merge_Check.Bz27 : Array Bool := #[true, true, true, true, true, true, true, true, true, true, true, true, true, true, true, true, true, true, true, true, true, true, true, true, true, true, true, false, false, false, false, false, false, false, false, false, false]
abbrev merge_Check.Bz28 : Array Bool := #[true, true, true, true, true, true, true, true, true, true, true, true, true, true, true, true, true, true, true, true, true, true, true, true, true, true, true, true, false, false, false, false, false, false, false, false, false]
abbrev merge_Check.Bz29 : Array Bool := #[true, true, true, true, true, true, true, true, true, true, true, true, true, true, true, true, true, true, true, true, true, true, true, true, true, true, true, true, true, false, false, false, false, false, false, false, false]
abbrev merge_Check.Bz30 : Array Bool := #[true, true, true, true, true, true, true, true, true, true, true, true, true, true, true, true, true, true, true, true, true, true, true, true, true, true, true, true, true, true, false, false, false, false, false, false, false]
abbrev merge_Check.Bz31 : Array Bool := #[true, true, true, true, true, true, true, true, true, true, true, true, true, true, true, true, true, true, true, true, true, true, true, true, true, true, true, true, true, true, true, false, false, false, false, false, false]
abbrev merge_Check.Bz32 : Array Bool := #[true, true, true, true, true, true, true, true, true, true, true, true, true, true, true, true, true, true, true, true, true, true, true, true, true, true, true, true, true, true, true, true, false, false, false, false, false]
abbrev merge_Check.Bz33 : Array Bool := #[true, true, true, true, true, true, true, true, true, true, true, true, true, true, true, true, true, true, true, true, true, true, true, true, true, true, true, true, true, true, true, true, true, false, false, false, false]
abbrev merge_Check.Bz34 : Array Bool := #[true, true, true, true, true, true, true, true, true, true, true, true, true, true, true, true, true, true, true, true, true, true, true, true, true, true, true, true, true, true, true, true, true, true, false, false, false]
abbrev merge_Check.Bz35 : Array Bool := #[true, true, true, true, true, true, true, true, true, true, true, true, true, true, true, true, true, true, true, true, true, true, true, true, true, true, true, true, true, true, true, true, true, true, true, false, false]
abbrev merge_Check.Bz36 : Array Bool := #[true, true, true, true, true, true, true, true, true, true, true, true, true, true, true, true, true, true, true, true, true, true, true, true, true, true, true, true, true, true, true, true, true, true, true, true, false]
abbrev merge_Check.Bz37 : Array Bool := #[true, true, true, true, true, true, true, true, true, true, true, true, true, true, true, true, true, true, true, true, true, true, true, true, true, true, true, true, true, true, true, true, true, true, true, true, true]
open merge_Check in
set_option maxHeartbeats 8000000 in
set_option maxRecDepth 100000 in
theorem merge_Check.calls (A0 : Option Addr) (c0 : Nat) (l0 : List S43) (r : Int) (w : World) (hr0 : Kd.C k43 w A0 l0.length l0) (hc0 : l0.length ≤ c0) (h : merge_Check.f l0 = some r) :
  Calls Tryd.prog 28 #[.slice A0 l0.length c0] w fun e w' => e = .returned (.int .i64 r) ∧ Below w.heap.size w w' := by
 have hbig : l0.length ≤ 9223372036854775807 := hr0.2.1
 have HR0 := Aside0.mk hr0
 obtain rfl := Option.some.inj h
 clear h hr0
 by_cases hm : 130 < l0.length
 ·rw [if_pos hm]
  have m1 : decide ((130 : Int) < (l0.length : Int)) = true := decide_eq_true (by omega)
  have m2 : decide (130 < l0.length) = true := decide_eq_true hm
  clear hm
  go_enter Tryd.func28, Tryd.ntmps28
  go_wp2
  go_ret
  exact ⟨rfl, Below.refl _ _⟩
 ·rw [if_neg hm]
  have m1 : decide ((130 : Int) < (l0.length : Int)) = false := decide_eq_false (by omega)
  have m2 : decide (130 < l0.length) = false := decide_eq_false hm
  have hl : l0.length ≤ 130 := by omega
  clear hm hbig
  obtain ⟨res, hres⟩ : ∃ res : Int, res = (if l0.any mbad = true then 8 else 0) := ⟨_, rfl⟩
  rw [← hres]
  have HRES := Aside0.mk hres
  clear hres
  go_enter Tryd.func28, Tryd.ntmps28
  go_wp2
  clear m1 m2
  go_loopg [11] l0.length (fun nq v11 wr => ∃ j : Nat, v11 = .int .i64 (j : Int) ∧ j ≤ l0.length ∧ l0.length - j ≤ nq ∧ Aside0 ((l0.drop j).any mbad = l0.any mbad) ∧ Aside0 (Below w.heap.size w wr))
  case atStart => exact ⟨0, rfl, by omega, by omega, ⟨rfl⟩, ⟨Below.refl _ _⟩⟩
  case round =>
   obtain ⟨j, rfl, hj, hjq, HA, HB⟩ := hrel
   by_cases hlt : j < l0.length
   ·have q1 : decide ((j : Int) < (l0.length : Int)) = true := decide_eq_true (by omega)
    obtain ⟨ad, A1, c1, A2, c2, A3, c3, rfl, k0, k1, k2, k3, n1, g1, n2, g2, n3, g3⟩ := at_T43 (Kd.C_below HR0.out HB.out) (j : Int) (by omega) (by omega)
    have hx : l0.drop j = rd_T43 l0 (j : Int) :: l0.drop (j + 1) := by
     rw [List.drop_eq_getElem_cons hlt]
     unfold rd_T43
     rw [Int.toNat_natCast, List.getD_eq_getElem?_getD, List.getElem?_eq_getElem hlt]
     rfl
    obtain ⟨x, hxe⟩ : ∃ x, x = rd_T43 l0 (j : Int) := ⟨_, rfl⟩
    rw [← hxe] at k0 k1 k2 k3 n1 g1 n2 g2 n3 g3 hx
    have HX := Aside0.mk hx
    clear hxe hx
    simp only [Int.toNat_natCast] at k0 k1 k2 k3
    obtain ⟨W, hW⟩ : ∃ W, W = (wr.alloc (.cells #[.int .u8 x.f0, .slice A1 x.f1.length c1, .slice A2 x.f2.length c2, .slice A3 x.f3.length c3] 43)).alloc (.cells #[.slice A1 x.f1.length c1, .slice A2 x.f2.length c2, .slice A3 x.f3.length c3] 70) := ⟨_, rfl⟩
    go_upto_region 7 with fail
    rw [← hW]
    have hWB : Below wr.heap.size wr W := by rw [hW]; exact ((Below.refl _ _).alloc (Nat.le_refl _) _).alloc (by simp) _
    have hsz : W.heap.size = wr.heap.size + 2 := by rw [hW]; simp
    have D0 := Aside0.mk (show W.cell? ⟨wr.heap.size, 0, none⟩ = some (.int .u8 x.f0) by rw [hW]; go_simp)
    have D1 := Aside0.mk (show W.cell? ⟨wr.heap.size, 1, none⟩ = some (.slice A1 x.f1.length c1) by rw [hW]; go_simp)
    have D2 := Aside0.mk (show W.cell? ⟨wr.heap.size, 2, none⟩ = some (.slice A2 x.f2.length c2) by rw [hW]; go_simp)
    have D3 := Aside0.mk (show W.cell? ⟨wr.heap.size, 3, none⟩ = some (.slice A3 x.f3.length c3) by rw [hW]; go_simp)
    have E0 := Aside0.mk (show W.cell? ⟨wr.heap.size + 1, 0, none⟩ = some (.slice A1 x.f1.length c1) by rw [hW]; go_simp)
    have E1 := Aside0.mk (show W.cell? ⟨wr.heap.size + 1, 1, none⟩ = some (.slice A2 x.f2.length c2) by rw [hW]; go_simp)
    have E2 := Aside0.mk (show W.cell? ⟨wr.heap.size + 1, 2, none⟩ = some (.slice A3 x.f3.length c3) by rw [hW]; go_simp)
    have L0 := Aside0.mk (show wr.heap.size < W.heap.size by omega)
    have L1 := Aside0.mk (show wr.heap.size + 1 < W.heap.size by omega)
    have HWB := Aside0.mk (Below.trans HB.out (Below.mono hWB (Below.size HB.out)))
    have P1' := fun X (hX : Below W.heap.size W X) => mplain_any A1 c1 x.f1 X (Kd.C_below (Kd.C_below g1 hWB) hX) n1
    have P2' := fun X (hX : Below W.heap.size W X) => mplain_any A2 c2 x.f2 X (Kd.C_below (Kd.C_below g2 hWB) hX) n2
    have P3' := fun X (hX : Below W.heap.size W X) => mplain_any A3 c3 x.f3 X (Kd.C_below (Kd.C_below g3 hWB) hX) n3
    have PK' := Aside0.mk (fun X (hX : Below W.heap.size W X) h1 h2 h3 => merge_kind.calls A1 c1 x.f1 A2 c2 x.f2 A3 c3 x.f3 X (Kd.C_below (Kd.C_below g1 hWB) hX) n1 (Kd.C_below (Kd.C_below g2 hWB) hX) n2 (Kd.C_below (Kd.C_below g3 hWB) hX) n3 h1 h2 h3)
    clear hW hWB hsz g1 g2 g3 n1 n2 n3 k0 k1 k2 k3
    have HWS := Aside0.mk (Below.size HWB.out)
    have HQ0 := Aside0.mk (show Below W.heap.size W W.drew from below_drew1 (Below.refl _ _))
    go_cut [58] (fun s58 wz => s58 = .bool (mbad x) ∧ Aside0 (Below w.heap.size w wz))
    case first =>
     cases b1 : mplainB x.f1 with
     | false =>
      rw [b1] at P1'
      have P1 := Aside0.mk P1'
      have HV := Aside0.mk (show mbad x = true by unfold mbad; rw [b1]; rfl)
      clear P1' P2' P3' PK' b1
      refine start_ (n := 37) (S := fun w' => w'.cell? ⟨wr.heap.size, 0, none⟩ = some (.int .u8 x.f0) ∧ w'.cell? ⟨wr.heap.size, 1, none⟩ = some (.slice A1 x.f1.length c1) ∧ w'.cell? ⟨wr.heap.size, 2, none⟩ = some (.slice A2 x.f2.length c2) ∧ w'.cell? ⟨wr.heap.size, 3, none⟩ = some (.slice A3 x.f3.length c3) ∧ w'.cell? ⟨wr.heap.size + 1, 0, none⟩ = some (.slice A1 x.f1.length c1) ∧ w'.cell? ⟨wr.heap.size + 1, 1, none⟩ = some (.slice A2 x.f2.length c2) ∧ w'.cell? ⟨wr.heap.size + 1, 2, none⟩ = some (.slice A3 x.f3.length c3)) (ds := []) Bz0 (by kernel_rfl) rfl rfl ⟨(by exact D0.out), (by exact D1.out), (by exact D2.out), (by exact D3.out), (by exact E0.out), (by exact E1.out), (by exact E2.out)⟩ (fun hHeld => ?_)
      refine pu 0 22 Bz1 rfl rfl (by kernel_rfl) ?_
      refine take_ (i := 1) (N := some 23) (v := ?_) (a' := ?_) Bz2 rfl rfl (by kernel_rfl) (fun _ _ _ h => h) (Or.inl ⟨by rfl, ?_⟩) hHeld ?_ ?_; rotate_left; (focus rintro w' ⟨s0, s1, s2, s3, s4, s5, s6⟩; go_simp; with_reducible rfl); rotate_left; (focus go_simp; rfl)
      refine one_ (i := 2) (N := some 24) Bz3 rfl rfl (by kernel_rfl) (by decide) (fun K hK => ?_)
      refine goes_ Tryd.func47 (by kernel_rfl) rfl #[.slice A1 x.f1.length c1] (by rfl) rfl rfl (by simp only [List.map_toArray, List.map_cons, List.map_nil]; rfl) ?_
      with_reducible refine (P1.out _ HQ0.out).mono ?_
      rintro e w' ⟨rfl, ⟨q1, rfl⟩⟩
      refine ⟨_, rfl, ?_⟩
      have HQ1 := Aside0.mk (pw_below_drewN HQ0.out q1)
      refine hK.out _ _ ⟨(by exact D0.out), (by exact D1.out), (by exact D2.out), (by exact D3.out), (by exact E0.out), (by exact E1.out), (by exact E2.out)⟩ (fun hHeld => ?_)
      clear hK K
      refine norm_ (a' := ?_) ?_ ?_
      rotate_left
      ·show Act.put _ (some 24) _ = _
       simp only [Act.put, List.setIfInBounds_toArray, List.set_cons_zero, List.set_cons_succ, i64_w, i32_w]
       rfl
      refine pu 3 25 Bz4 rfl rfl (by kernel_rfl) ?_
      refine pu 4 26 Bz5 rfl rfl (by kernel_rfl) ?_
      refine po 5 27 Bz6 rfl rfl (by kernel_rfl) ?_
      refine po 6 28 Bz7 rfl rfl (by kernel_rfl) ?_
      refine po 7 29 Bz8 rfl rfl (by kernel_rfl) ?_
      refine po 8 30 Bz9 rfl rfl (by kernel_rfl) ?_
      refine pu 9 31 Bz10 rfl rfl (by kernel_rfl) ?_
      refine pu 10 32 Bz11 rfl rfl (by kernel_rfl) ?_
      refine po 11 33 Bz12 rfl rfl (by kernel_rfl) ?_
      refine po 12 34 Bz13 rfl rfl (by kernel_rfl) ?_
      refine po 13 35 Bz14 rfl rfl (by kernel_rfl) ?_
      refine po 14 36 Bz15 rfl rfl (by kernel_rfl) ?_
      refine pu 15 37 Bz16 rfl rfl (by kernel_rfl) ?_
      refine pu 16 38 Bz17 rfl rfl (by kernel_rfl) ?_
      refine po 17 39 Bz18 rfl rfl (by kernel_rfl) ?_
      refine po 18 40 Bz19 rfl rfl (by kernel_rfl) ?_
      refine po 19 41 Bz20 rfl rfl (by kernel_rfl) ?_
      refine po 20 42 Bz21 rfl rfl (by kernel_rfl) ?_
      refine po 21 43 Bz22 rfl rfl (by kernel_rfl) ?_
      refine pu 22 44 Bz23 rfl rfl (by kernel_rfl) ?_
      refine pu 23 45 Bz24 rfl rfl (by kernel_rfl) ?_
      refine po 24 46 Bz25 rfl rfl (by kernel_rfl) ?_
      refine po 25 47 Bz26 rfl rfl (by kernel_rfl) ?_
      refine po 26 48 Bz27 rfl rfl (by kernel_rfl) ?_
      refine po 27 49 Bz28 rfl rfl (by kernel_rfl) ?_
      refine po 28 50 Bz29 rfl rfl (by kernel_rfl) ?_
      refine po 29 51 Bz30 rfl rfl (by kernel_rfl) ?_
      refine po 30 52 Bz31 rfl rfl (by kernel_rfl) ?_
      refine po 31 53 Bz32 rfl rfl (by kernel_rfl) ?_
      refine po 32 54 Bz33 rfl rfl (by kernel_rfl) ?_
      refine po 33 55 Bz34 rfl rfl (by kernel_rfl) ?_
      refine po 34 56 Bz35 rfl rfl (by kernel_rfl) ?_
      refine po 35 57 Bz36 rfl rfl (by kernel_rfl) ?_
      refine pu 36 58 Bz37 rfl rfl (by kernel_rfl) ?_
      refine done_ (by kernel_rfl) ?_
      go_wp2_with fail
      go_meet
      exact ⟨congrArg Value.bool HV.out.symm, ⟨Below.trans HWB.out (Below.mono HQ1.out HWS.out)⟩⟩
     | true =>
      have l1 := mplain_len b1
      rw [b1] at P1'
      have P1 := Aside0.mk P1'
      cases b2 : mplainB x.f2 with
      | false =>
       rw [b2] at P2'
       have P2 := Aside0.mk P2'
       have HV := Aside0.mk (show mbad x = true by unfold mbad; rw [b1, b2]; rfl)
       clear P1' P2' P3' PK' b1 b2
       refine start_ (n := 37) (S := fun w' => w'.cell? ⟨wr.heap.size, 0, none⟩ = some (.int .u8 x.f0) ∧ w'.cell? ⟨wr.heap.size, 1, none⟩ = some (.slice A1 x.f1.length c1) ∧ w'.cell? ⟨wr.heap.size, 2, none⟩ = some (.slice A2 x.f2.length c2) ∧ w'.cell? ⟨wr.heap.size, 3, none⟩ = some (.slice A3 x.f3.length c3) ∧ w'.cell? ⟨wr.heap.size + 1, 0, none⟩ = some (.slice A1 x.f1.length c1) ∧ w'.cell? ⟨wr.heap.size + 1, 1, none⟩ = some (.slice A2 x.f2.length c2) ∧ w'.cell? ⟨wr.heap.size + 1, 2, none⟩ = some (.slice A3 x.f3.length c3)) (ds := []) Bz0 (by kernel_rfl) rfl rfl ⟨(by exact D0.out), (by exact D1.out), (by exact D2.out), (by exact D3.out), (by exact E0.out), (by exact E1.out), (by exact E2.out)⟩ (fun hHeld => ?_)
       refine pu 0 22 Bz1 rfl rfl (by kernel_rfl) ?_
       refine take_ (i := 1) (N := some 23) (v := ?_) (a' := ?_) Bz2 rfl rfl (by kernel_rfl) (fun _ _ _ h => h) (Or.inl ⟨by rfl, ?_⟩) hHeld ?_ ?_; rotate_left; (focus rintro w' ⟨s0, s1, s2, s3, s4, s5, s6⟩; go_simp; with_reducible rfl); rotate_left; (focus go_simp; rfl)
       refine one_ (i := 2) (N := some 24) Bz3 rfl rfl (by kernel_rfl) (by decide) (fun K hK => ?_)
       refine goes_ Tryd.func47 (by kernel_rfl) rfl #[.slice A1 x.f1.length c1] (by rfl) rfl rfl (by simp only [List.map_toArray, List.map_cons, List.map_nil]; rfl) ?_
       with_reducible refine (P1.out _ HQ0.out).mono ?_
       rintro e w' ⟨rfl, ⟨q1, rfl⟩⟩
       refine ⟨_, rfl, ?_⟩
       have HQ1 := Aside0.mk (pw_below_drewN HQ0.out q1)
       refine hK.out _ _ ⟨(by exact D0.out), (by exact D1.out), (by exact D2.out), (by exact D3.out), (by exact E0.out), (by exact E1.out), (by exact E2.out)⟩ (fun hHeld => ?_)
       clear hK K
       refine norm_ (a' := ?_) ?_ ?_
       rotate_left
       ·show Act.put _ (some 24) _ = _
        simp only [Act.put, List.setIfInBounds_toArray, List.set_cons_zero, List.set_cons_succ, i64_w, i32_w]
        rfl
       refine pu 3 25 Bz4 rfl rfl (by kernel_rfl) ?_
       refine pu 4 26 Bz5 rfl rfl (by kernel_rfl) ?_
       refine pu 5 27 Bz6 rfl rfl (by kernel_rfl) ?_
       refine take_ (i := 6) (N := some 28) (v := ?_) (a' := ?_) Bz7 rfl rfl (by kernel_rfl) (fun _ _ _ h => h) (Or.inl ⟨by rfl, ?_⟩) hHeld ?_ ?_; rotate_left; (focus rintro w' ⟨s0, s1, s2, s3, s4, s5, s6⟩; go_simp; with_reducible rfl); rotate_left; (focus go_simp; rfl)
       refine one_ (i := 7) (N := some 29) Bz8 rfl rfl (by kernel_rfl) (by decide) (fun K hK => ?_)
       refine goes_ Tryd.func47 (by kernel_rfl) rfl #[.slice A2 x.f2.length c2] (by rfl) rfl rfl (by simp only [List.map_toArray, List.map_cons, List.map_nil]; rfl) ?_
       with_reducible refine (P2.out _ HQ1.out).mono ?_
       rintro e w' ⟨rfl, ⟨q2, rfl⟩⟩
       refine ⟨_, rfl, ?_⟩
       have HQ2 := Aside0.mk (pw_below_drewN HQ1.out q2)
       refine hK.out _ _ ⟨(by exact D0.out), (by exact D1.out), (by exact D2.out), (by exact D3.out), (by exact E0.out), (by exact E1.out), (by exact E2.out)⟩ (fun hHeld => ?_)
       clear hK K
       refine norm_ (a' := ?_) ?_ ?_
       rotate_left
       ·show Act.put _ (some 29) _ = _
        simp only [Act.put, List.setIfInBounds_toArray, List.set_cons_zero, List.set_cons_succ, i64_w, i32_w]
        rfl
       refine pu 8 30 Bz9 rfl rfl (by kernel_rfl) ?_
       refine pu 9 31 Bz10 rfl rfl (by kernel_rfl) ?_
       refine pu 10 32 Bz11 rfl rfl (by kernel_rfl) ?_
       refine po 11 33 Bz12 rfl rfl (by kernel_rfl) ?_
       refine po 12 34 Bz13 rfl rfl (by kernel_rfl) ?_
       refine po 13 35 Bz14 rfl rfl (by kernel_rfl) ?_
       refine po 14 36 Bz15 rfl rfl (by kernel_rfl) ?_
       refine pu 15 37 Bz16 rfl rfl (by kernel_rfl) ?_
       refine pu 16 38 Bz17 rfl rfl (by kernel_rfl) ?_
       refine po 17 39 Bz18 rfl rfl (by kernel_rfl) ?_
       refine po 18 40 Bz19 rfl rfl (by kernel_rfl) ?_
       refine po 19 41 Bz20 rfl rfl (by kernel_rfl) ?_
       refine po 20 42 Bz21 rfl rfl (by kernel_rfl) ?_
       refine po 21 43 Bz22 rfl rfl (by kernel_rfl) ?_
       refine pu 22 44 Bz23 rfl rfl (by kernel_rfl) ?_
       refine pu 23 45 Bz24 rfl rfl (by kernel_rfl) ?_
       refine po 24 46 Bz25 rfl rfl (by kernel_rfl) ?_
       refine po 25 47 Bz26 rfl rfl (by kernel_rfl) ?_
       refine po 26 48 Bz27 rfl rfl (by kernel_rfl) ?_
       refine po 27 49 Bz28 rfl rfl (by kernel_rfl) ?_
       refine po 28 50 Bz29 rfl rfl (by kernel_rfl) ?_
       refine po 29 51 Bz30 rfl rfl (by kernel_rfl) ?_
       refine po 30 52 Bz31 rfl rfl (by kernel_rfl) ?_
       refine po 31 53 Bz32 rfl rfl (by kernel_rfl) ?_
       refine po 32 54 Bz33 rfl rfl (by kernel_rfl) ?_
       refine po 33 55 Bz34 rfl rfl (by kernel_rfl) ?_
       refine po 34 56 Bz35 rfl rfl (by kernel_rfl) ?_
       refine po 35 57 Bz36 rfl rfl (by kernel_rfl) ?_
       refine pu 36 58 Bz37 rfl rfl (by kernel_rfl) ?_
       refine done_ (by kernel_rfl) ?_
       go_wp2_with fail
       go_meet
       exact ⟨congrArg Value.bool HV.out.symm, ⟨Below.trans HWB.out (Below.mono HQ2.out HWS.out)⟩⟩
      | true =>
       have l2 := mplain_len b2
       rw [b2] at P2'
       have P2 := Aside0.mk P2'
       cases b3 : mplainB x.f3 with
       | false =>
        rw [b3] at P3'
        have P3 := Aside0.mk P3'
        have HV := Aside0.mk (show mbad x = true by unfold mbad; rw [b1, b2, b3]; rfl)
        clear P1' P2' P3' PK' b1 b2 b3
        refine start_ (n := 37) (S := fun w' => w'.cell? ⟨wr.heap.size, 0, none⟩ = some (.int .u8 x.f0) ∧ w'.cell? ⟨wr.heap.size, 1, none⟩ = some (.slice A1 x.f1.length c1) ∧ w'.cell? ⟨wr.heap.size, 2, none⟩ = some (.slice A2 x.f2.length c2) ∧ w'.cell? ⟨wr.heap.size, 3, none⟩ = some (.slice A3 x.f3.length c3) ∧ w'.cell? ⟨wr.heap.size + 1, 0, none⟩ = some (.slice A1 x.f1.length c1) ∧ w'.cell? ⟨wr.heap.size + 1, 1, none⟩ = some (.slice A2 x.f2.length c2) ∧ w'.cell? ⟨wr.heap.size + 1, 2, none⟩ = some (.slice A3 x.f3.length c3)) (ds := []) Bz0 (by kernel_rfl) rfl rfl ⟨(by exact D0.out), (by exact D1.out), (by exact D2.out), (by exact D3.out), (by exact E0.out), (by exact E1.out), (by exact E2.out)⟩ (fun hHeld => ?_)
        refine pu 0 22 Bz1 rfl rfl (by kernel_rfl) ?_
        refine take_ (i := 1) (N := some 23) (v := ?_) (a' := ?_) Bz2 rfl rfl (by kernel_rfl) (fun _ _ _ h => h) (Or.inl ⟨by rfl, ?_⟩) hHeld ?_ ?_; rotate_left; (focus rintro w' ⟨s0, s1, s2, s3, s4, s5, s6⟩; go_simp; with_reducible rfl); rotate_left; (focus go_simp; rfl)
        refine one_ (i := 2) (N := some 24) Bz3 rfl rfl (by kernel_rfl) (by decide) (fun K hK => ?_)
        refine goes_ Tryd.func47 (by kernel_rfl) rfl #[.slice A1 x.f1.length c1] (by rfl) rfl rfl (by simp only [List.map_toArray, List.map_cons, List.map_nil]; rfl) ?_
        with_reducible refine (P1.out _ HQ0.out).mono ?_
        rintro e w' ⟨rfl, ⟨q1, rfl⟩⟩
        refine ⟨_, rfl, ?_⟩
        have HQ1 := Aside0.mk (pw_below_drewN HQ0.out q1)
        refine hK.out _ _ ⟨(by exact D0.out), (by exact D1.out), (by exact D2.out), (by exact D3.out), (by exact E0.out), (by exact E1.out), (by exact E2.out)⟩ (fun hHeld => ?_)
        clear hK K
        refine norm_ (a' := ?_) ?_ ?_
        rotate_left
        ·show Act.put _ (some 24) _ = _
         simp only [Act.put, List.setIfInBounds_toArray, List.set_cons_zero, List.set_cons_succ, i64_w, i32_w]
         rfl
        refine pu 3 25 Bz4 rfl rfl (by kernel_rfl) ?_
        refine pu 4 26 Bz5 rfl rfl (by kernel_rfl) ?_
        refine pu 5 27 Bz6 rfl rfl (by kernel_rfl) ?_
        refine take_ (i := 6) (N := some 28) (v := ?_) (a' := ?_) Bz7 rfl rfl (by kernel_rfl) (fun _ _ _ h => h) (Or.inl ⟨by rfl, ?_⟩) hHeld ?_ ?_; rotate_left; (focus rintro w' ⟨s0, s1, s2, s3, s4, s5, s6⟩; go_simp; with_reducible rfl); rotate_left; (focus go_simp; rfl)
        refine one_ (i := 7) (N := some 29) Bz8 rfl rfl (by kernel_rfl) (by decide) (fun K hK => ?_)
        refine goes_ Tryd.func47 (by kernel_rfl) rfl #[.slice A2 x.f2.length c2] (by rfl) rfl rfl (by simp only [List.map_toArray, List.map_cons, List.map_nil]; rfl) ?_
        with_reducible refine (P2.out _ HQ1.out).mono ?_
        rintro e w' ⟨rfl, ⟨q2, rfl⟩⟩
        refine ⟨_, rfl, ?_⟩
        have HQ2 := Aside0.mk (pw_below_drewN HQ1.out q2)
        refine hK.out _ _ ⟨(by exact D0.out), (by exact D1.out), (by exact D2.out), (by exact D3.out), (by exact E0.out), (by exact E1.out), (by exact E2.out)⟩ (fun hHeld => ?_)
        clear hK K
        refine norm_ (a' := ?_) ?_ ?_
        rotate_left
        ·show Act.put _ (some 29) _ = _
         simp only [Act.put, List.setIfInBounds_toArray, List.set_cons_zero, List.set_cons_succ, i64_w, i32_w]
         rfl
        refine pu 8 30 Bz9 rfl rfl (by kernel_rfl) ?_
        refine pu 9 31 Bz10 rfl rfl (by kernel_rfl) ?_
        refine pu 10 32 Bz11 rfl rfl (by kernel_rfl) ?_
        refine pu 11 33 Bz12 rfl rfl (by kernel_rfl) ?_
        refine take_ (i := 12) (N := some 34) (v := ?_) (a' := ?_) Bz13 rfl rfl (by kernel_rfl) (fun _ _ _ h => h) (Or.inl ⟨by rfl, ?_⟩) hHeld ?_ ?_; rotate_left; (focus rintro w' ⟨s0, s1, s2, s3, s4, s5, s6⟩; go_simp; with_reducible rfl); rotate_left; (focus go_simp; rfl)
        refine one_ (i := 13) (N := some 35) Bz14 rfl rfl (by kernel_rfl) (by decide) (fun K hK => ?_)
        refine goes_ Tryd.func47 (by kernel_rfl) rfl #[.slice A3 x.f3.length c3] (by rfl) rfl rfl (by simp only [List.map_toArray, List.map_cons, List.map_nil]; rfl) ?_
        with_reducible refine (P3.out _ HQ2.out).mono ?_
        rintro e w' ⟨rfl, ⟨q3, rfl⟩⟩
        refine ⟨_, rfl, ?_⟩
        have HQ3 := Aside0.mk (pw_below_drewN HQ2.out q3)
        refine hK.out _ _ ⟨(by exact D0.out), (by exact D1.out), (by exact D2.out), (by exact D3.out), (by exact E0.out), (by exact E1.out), (by exact E2.out)⟩ (fun hHeld => ?_)
        clear hK K
        refine norm_ (a' := ?_) ?_ ?_
        rotate_left
        ·show Act.put _ (some 35) _ = _
         simp only [Act.put, List.setIfInBounds_toArray, List.set_cons_zero, List.set_cons_succ, i64_w, i32_w]
         rfl
        refine pu 14 36 Bz15 rfl rfl (by kernel_rfl) ?_
        refine pu 15 37 Bz16 rfl rfl (by kernel_rfl) ?_
        refine pu 16 38 Bz17 rfl rfl (by kernel_rfl) ?_
        refine po 17 39 Bz18 rfl rfl (by kernel_rfl) ?_
        refine po 18 40 Bz19 rfl rfl (by kernel_rfl) ?_
        refine po 19 41 Bz20 rfl rfl (by kernel_rfl) ?_
        refine po 20 42 Bz21 rfl rfl (by kernel_rfl) ?_
        refine po 21 43 Bz22 rfl rfl (by kernel_rfl) ?_
        refine pu 22 44 Bz23 rfl rfl (by kernel_rfl) ?_
        refine pu 23 45 Bz24 rfl rfl (by kernel_rfl) ?_
        refine po 24 46 Bz25 rfl rfl (by kernel_rfl) ?_
        refine po 25 47 Bz26 rfl rfl (by kernel_rfl) ?_
        refine po 26 48 Bz27 rfl rfl (by kernel_rfl) ?_
        refine po 27 49 Bz28 rfl rfl (by kernel_rfl) ?_
        refine po 28 50 Bz29 rfl rfl (by kernel_rfl) ?_
        refine po 29 51 Bz30 rfl rfl (by kernel_rfl) ?_
        refine po 30 52 Bz31 rfl rfl (by kernel_rfl) ?_
        refine po 31 53 Bz32 rfl rfl (by kernel_rfl) ?_
        refine po 32 54 Bz33 rfl rfl (by kernel_rfl) ?_
        refine po 33 55 Bz34 rfl rfl (by kernel_rfl) ?_
        refine po 34 56 Bz35 rfl rfl (by kernel_rfl) ?_
        refine po 35 57 Bz36 rfl rfl (by kernel_rfl) ?_
        refine pu 36 58 Bz37 rfl rfl (by kernel_rfl) ?_
        refine done_ (by kernel_rfl) ?_
        go_wp2_with fail
        go_meet
        exact ⟨congrArg Value.bool HV.out.symm, ⟨Below.trans HWB.out (Below.mono HQ3.out HWS.out)⟩⟩
       | true =>
        have l3 := mplain_len b3
        rw [b3] at P3'
        have P3 := Aside0.mk P3'
        have PK := Aside0.mk (fun X hX => PK'.out X hX (by omega) (by omega) (by omega))
        have HV := Aside0.mk (show mbad x = (decide (x.f0 ≠ kindB x.f1 x.f2 x.f3) || decide (x.f1.length + x.f2.length + x.f3.length = 0)) by unfold mbad; rw [b1, b2, b3]; rfl)
        clear P1' P2' P3' PK' b1 b2 b3
        obtain ⟨kv, hkv⟩ : ∃ kv, kv = kindB x.f1 x.f2 x.f3 := ⟨_, rfl⟩
        rw [← hkv] at PK HV
        clear hkv
        by_cases z1 : x.f0 = kv
        ·have z1b : (x.f0 == kv) = true := by simpa using z1
         have z1c : (x.f0 != kv) = false := by simpa using z1
         have Z1 := Aside0.mk (show decide (x.f0 ≠ kv) = false from decide_eq_false (by simpa using z1))
         clear z1
         have j0 : IntKind.i64.wrap ((x.f1.length : Int) + (x.f2.length : Int)) = (x.f1.length : Int) + (x.f2.length : Int) := IntWalk.i64_in _ (by omega)
         have j1 : IntKind.i64.wrap ((x.f1.length : Int) + (x.f2.length : Int) + (x.f3.length : Int)) = (x.f1.length : Int) + (x.f2.length : Int) + (x.f3.length : Int) := IntWalk.i64_in _ (by omega)
         refine start_ (n := 37) (S := fun w' => w'.cell? ⟨wr.heap.size, 0, none⟩ = some (.int .u8 x.f0) ∧ w'.cell? ⟨wr.heap.size, 1, none⟩ = some (.slice A1 x.f1.length c1) ∧ w'.cell? ⟨wr.heap.size, 2, none⟩ = some (.slice A2 x.f2.length c2) ∧ w'.cell? ⟨wr.heap.size, 3, none⟩ = some (.slice A3 x.f3.length c3) ∧ w'.cell? ⟨wr.heap.size + 1, 0, none⟩ = some (.slice A1 x.f1.length c1) ∧ w'.cell? ⟨wr.heap.size + 1, 1, none⟩ = some (.slice A2 x.f2.length c2) ∧ w'.cell? ⟨wr.heap.size + 1, 2, none⟩ = some (.slice A3 x.f3.length c3)) (ds := []) Bz0 (by kernel_rfl) rfl rfl ⟨(by exact D0.out), (by exact D1.out), (by exact D2.out), (by exact D3.out), (by exact E0.out), (by exact E1.out), (by exact E2.out)⟩ (fun hHeld => ?_)
         refine pu 0 22 Bz1 rfl rfl (by kernel_rfl) ?_
         refine take_ (i := 1) (N := some 23) (v := ?_) (a' := ?_) Bz2 rfl rfl (by kernel_rfl) (fun _ _ _ h => h) (Or.inl ⟨by rfl, ?_⟩) hHeld ?_ ?_; rotate_left; (focus rintro w' ⟨s0, s1, s2, s3, s4, s5, s6⟩; go_simp; with_reducible rfl); rotate_left; (focus go_simp; rfl)
         refine one_ (i := 2) (N := some 24) Bz3 rfl rfl (by kernel_rfl) (by decide) (fun K hK => ?_)
         refine goes_ Tryd.func47 (by kernel_rfl) rfl #[.slice A1 x.f1.length c1] (by rfl) rfl rfl (by simp only [List.map_toArray, List.map_cons, List.map_nil]; rfl) ?_
         with_reducible refine (P1.out _ HQ0.out).mono ?_
         rintro e w' ⟨rfl, ⟨q1, rfl⟩⟩
         refine ⟨_, rfl, ?_⟩
         have HQ1 := Aside0.mk (pw_below_drewN HQ0.out q1)
         refine hK.out _ _ ⟨(by exact D0.out), (by exact D1.out), (by exact D2.out), (by exact D3.out), (by exact E0.out), (by exact E1.out), (by exact E2.out)⟩ (fun hHeld => ?_)
         clear hK K
         refine norm_ (a' := ?_) ?_ ?_
         rotate_left
         ·show Act.put _ (some 24) _ = _
          simp only [Act.put, List.setIfInBounds_toArray, List.set_cons_zero, List.set_cons_succ, i64_w, i32_w]
          rfl
         refine pu 3 25 Bz4 rfl rfl (by kernel_rfl) ?_
         refine pu 4 26 Bz5 rfl rfl (by kernel_rfl) ?_
         refine pu 5 27 Bz6 rfl rfl (by kernel_rfl) ?_
         refine take_ (i := 6) (N := some 28) (v := ?_) (a' := ?_) Bz7 rfl rfl (by kernel_rfl) (fun _ _ _ h => h) (Or.inl ⟨by rfl, ?_⟩) hHeld ?_ ?_; rotate_left; (focus rintro w' ⟨s0, s1, s2, s3, s4, s5, s6⟩; go_simp; with_reducible rfl); rotate_left; (focus go_simp; rfl)
         refine one_ (i := 7) (N := some 29) Bz8 rfl rfl (by kernel_rfl) (by decide) (fun K hK => ?_)
         refine goes_ Tryd.func47 (by kernel_rfl) rfl #[.slice A2 x.f2.length c2] (by rfl) rfl rfl (by simp only [List.map_toArray, List.map_cons, List.map_nil]; rfl) ?_
         with_reducible refine (P2.out _ HQ1.out).mono ?_
         rintro e w' ⟨rfl, ⟨q2, rfl⟩⟩
         refine ⟨_, rfl, ?_⟩
         have HQ2 := Aside0.mk (pw_below_drewN HQ1.out q2)
         refine hK.out _ _ ⟨(by exact D0.out), (by exact D1.out), (by exact D2.out), (by exact D3.out), (by exact E0.out), (by exact E1.out), (by exact E2.out)⟩ (fun hHeld => ?_)
         clear hK K
         refine norm_ (a' := ?_) ?_ ?_
         rotate_left
         ·show Act.put _ (some 29) _ = _
          simp only [Act.put, List.setIfInBounds_toArray, List.set_cons_zero, List.set_cons_succ, i64_w, i32_w]
          rfl
         refine pu 8 30 Bz9 rfl rfl (by kernel_rfl) ?_
         refine pu 9 31 Bz10 rfl rfl (by kernel_rfl) ?_
         refine pu 10 32 Bz11 rfl rfl (by kernel_rfl) ?_
         refine pu 11 33 Bz12 rfl rfl (by kernel_rfl) ?_
         refine take_ (i := 12) (N := some 34) (v := ?_) (a' := ?_) Bz13 rfl rfl (by kernel_rfl) (fun _ _ _ h => h) (Or.inl ⟨by rfl, ?_⟩) hHeld ?_ ?_; rotate_left; (focus rintro w' ⟨s0, s1, s2, s3, s4, s5, s6⟩; go_simp; with_reducible rfl); rotate_left; (focus go_simp; rfl)
         refine one_ (i := 13) (N := some 35) Bz14 rfl rfl (by kernel_rfl) (by decide) (fun K hK => ?_)
         refine goes_ Tryd.func47 (by kernel_rfl) rfl #[.slice A3 x.f3.length c3] (by rfl) rfl rfl (by simp only [List.map_toArray, List.map_cons, List.map_nil]; rfl) ?_
         with_reducible refine (P3.out _ HQ2.out).mono ?_
         rintro e w' ⟨rfl, ⟨q3, rfl⟩⟩
         refine ⟨_, rfl, ?_⟩
         have HQ3 := Aside0.mk (pw_below_drewN HQ2.out q3)
         refine hK.out _ _ ⟨(by exact D0.out), (by exact D1.out), (by exact D2.out), (by exact D3.out), (by exact E0.out), (by exact E1.out), (by exact E2.out)⟩ (fun hHeld => ?_)
         clear hK K
         refine norm_ (a' := ?_) ?_ ?_
         rotate_left
         ·show Act.put _ (some 35) _ = _
          simp only [Act.put, List.setIfInBounds_toArray, List.set_cons_zero, List.set_cons_succ, i64_w, i32_w]
          rfl
         refine pu 14 36 Bz15 rfl rfl (by kernel_rfl) ?_
         refine pu 15 37 Bz16 rfl rfl (by kernel_rfl) ?_
         refine pu 16 38 Bz17 rfl rfl (by kernel_rfl) ?_
         refine pu 17 39 Bz18 rfl rfl (by kernel_rfl) ?_
         refine take_ (i := 18) (N := some 40) (v := ?_) (a' := ?_) Bz19 rfl rfl (by kernel_rfl) (fun _ _ _ h => h) (Or.inl ⟨by rfl, ?_⟩) hHeld ?_ ?_; rotate_left; (focus rintro w' ⟨s0, s1, s2, s3, s4, s5, s6⟩; go_simp; with_reducible rfl); rotate_left; (focus go_simp; rfl)
         refine take_ (i := 19) (N := some 41) (v := ?_) (a' := ?_) Bz20 rfl rfl (by kernel_rfl) (fun _ _ _ h => h) (Or.inl ⟨by rfl, ?_⟩) hHeld ?_ ?_; rotate_left; (focus rintro w' ⟨s0, s1, s2, s3, s4, s5, s6⟩; go_simp; with_reducible rfl); rotate_left; (focus go_simp; rfl)
         refine one_ (i := 20) (N := some 42) Bz21 rfl rfl (by kernel_rfl) (by decide) (fun K hK => ?_)
         refine goes_ Tryd.func48 (by kernel_rfl) rfl #[.agg #[.slice A1 x.f1.length c1, .slice A2 x.f2.length c2, .slice A3 x.f3.length c3]] (by rfl) rfl rfl (by simp only [List.map_toArray, List.map_cons, List.map_nil]; rfl) ?_
         with_reducible refine (PK.out _ HQ3.out).mono ?_
         rintro e w3 ⟨rfl, hk⟩
         refine ⟨_, rfl, ?_⟩
         have HK := Aside0.mk hk
         clear hk
         refine hK.out _ _ ⟨(pc_keep HK.out (by exact L0.out) D0.out), (pc_keep HK.out (by exact L0.out) D1.out), (pc_keep HK.out (by exact L0.out) D2.out), (pc_keep HK.out (by exact L0.out) D3.out), (pc_keep HK.out (by exact L1.out) E0.out), (pc_keep HK.out (by exact L1.out) E1.out), (pc_keep HK.out (by exact L1.out) E2.out)⟩ (fun hHeld => ?_)
         clear hK K
         refine norm_ (a' := ?_) ?_ ?_
         rotate_left
         ·show Act.put _ (some 42) _ = _
          simp only [Act.put, List.setIfInBounds_toArray, List.set_cons_zero, List.set_cons_succ, i64_w, i32_w]
          rfl
         refine pu 21 43 Bz22 rfl rfl (by kernel_rfl) ?_
         refine pu 22 44 Bz23 rfl rfl (by kernel_rfl) ?_
         refine pu 23 45 Bz24 rfl rfl (by kernel_rfl) ?_
         refine pu 24 46 Bz25 rfl rfl (by kernel_rfl) ?_
         refine pu 27 49 #[true, true, true, true, true, true, true, true, true, true, true, true, true, true, true, true, true, true, true, true, true, true, true, true, true, false, false, true, false, false, false, false, false, false, false, false, false] rfl rfl (by kernel_rfl) ?_
         refine pu 31 53 #[true, true, true, true, true, true, true, true, true, true, true, true, true, true, true, true, true, true, true, true, true, true, true, true, true, false, false, true, false, false, false, true, false, false, false, false, false] rfl rfl (by kernel_rfl) ?_
         refine take_ (i := 25) (N := some 47) (v := ?_) (a' := ?_) #[true, true, true, true, true, true, true, true, true, true, true, true, true, true, true, true, true, true, true, true, true, true, true, true, true, true, false, true, false, false, false, true, false, false, false, false, false] rfl rfl (by kernel_rfl) (fun _ _ _ h => h) (Or.inl ⟨by rfl, ?_⟩) hHeld ?_ ?_; rotate_left; (focus rintro w' ⟨s0, s1, s2, s3, s4, s5, s6⟩; go_simp; with_reducible rfl); rotate_left; (focus go_simp; rfl)
         refine pu 26 48 #[true, true, true, true, true, true, true, true, true, true, true, true, true, true, true, true, true, true, true, true, true, true, true, true, true, true, true, true, false, false, false, true, false, false, false, false, false] rfl rfl (by kernel_rfl) ?_
         refine take_ (i := 28) (N := some 50) (v := ?_) (a' := ?_) #[true, true, true, true, true, true, true, true, true, true, true, true, true, true, true, true, true, true, true, true, true, true, true, true, true, true, true, true, true, false, false, true, false, false, false, false, false] rfl rfl (by kernel_rfl) (fun _ _ _ h => h) (Or.inl ⟨by rfl, ?_⟩) hHeld ?_ ?_; rotate_left; (focus rintro w' ⟨s0, s1, s2, s3, s4, s5, s6⟩; go_simp; with_reducible rfl); rotate_left; (focus go_simp; rfl)
         refine pu 29 51 #[true, true, true, true, true, true, true, true, true, true, true, true, true, true, true, true, true, true, true, true, true, true, true, true, true, true, true, true, true, true, false, true, false, false, false, false, false] rfl rfl (by kernel_rfl) ?_
         refine pu 30 52 Bz32 rfl rfl (by kernel_rfl) ?_
         refine take_ (i := 32) (N := some 54) (v := ?_) (a' := ?_) Bz33 rfl rfl (by kernel_rfl) (fun _ _ _ h => h) (Or.inl ⟨by rfl, ?_⟩) hHeld ?_ ?_; rotate_left; (focus rintro w' ⟨s0, s1, s2, s3, s4, s5, s6⟩; go_simp; with_reducible rfl); rotate_left; (focus go_simp; rfl)
         refine pu 33 55 Bz34 rfl rfl (by kernel_rfl) ?_
         refine pu 34 56 Bz35 rfl rfl (by kernel_rfl) ?_
         refine pu 35 57 Bz36 rfl rfl (by kernel_rfl) ?_
         refine pu 36 58 Bz37 rfl rfl (by kernel_rfl) ?_
         refine done_ (by kernel_rfl) ?_
         go_wp2_with fail
         go_meet
         refine ⟨congrArg Value.bool ?_, ⟨Below.trans HWB.out (Below.trans (Below.mono HQ3.out HWS.out) (Below.mono HK.out (Nat.le_trans HWS.out (by have h_ := Below.size HQ3.out; exact h_))))⟩⟩
         rw [HV.out, Z1.out, Bool.false_or, Bool.eq_iff_iff]
         simp only [beq_iff_eq, decide_eq_true_eq]
         omega
        ·have z1b : (x.f0 == kv) = false := by simpa using z1
         have z1c : (x.f0 != kv) = true := by simpa using z1
         have Z1 := Aside0.mk (show decide (x.f0 ≠ kv) = true from decide_eq_true z1)
         clear z1
         refine start_ (n := 37) (S := fun w' => w'.cell? ⟨wr.heap.size, 0, none⟩ = some (.int .u8 x.f0) ∧ w'.cell? ⟨wr.heap.size, 1, none⟩ = some (.slice A1 x.f1.length c1) ∧ w'.cell? ⟨wr.heap.size, 2, none⟩ = some (.slice A2 x.f2.length c2) ∧ w'.cell? ⟨wr.heap.size, 3, none⟩ = some (.slice A3 x.f3.length c3) ∧ w'.cell? ⟨wr.heap.size + 1, 0, none⟩ = some (.slice A1 x.f1.length c1) ∧ w'.cell? ⟨wr.heap.size + 1, 1, none⟩ = some (.slice A2 x.f2.length c2) ∧ w'.cell? ⟨wr.heap.size + 1, 2, none⟩ = some (.slice A3 x.f3.length c3)) (ds := []) Bz0 (by kernel_rfl) rfl rfl ⟨(by exact D0.out), (by exact D1.out), (by exact D2.out), (by exact D3.out), (by exact E0.out), (by exact E1.out), (by exact E2.out)⟩ (fun hHeld => ?_)
         refine pu 0 22 Bz1 rfl rfl (by kernel_rfl) ?_
         refine take_ (i := 1) (N := some 23) (v := ?_) (a' := ?_) Bz2 rfl rfl (by kernel_rfl) (fun _ _ _ h => h) (Or.inl ⟨by rfl, ?_⟩) hHeld ?_ ?_; rotate_left; (focus rintro w' ⟨s0, s1, s2, s3, s4, s5, s6⟩; go_simp; with_reducible rfl); rotate_left; (focus go_simp; rfl)
         refine one_ (i := 2) (N := some 24) Bz3 rfl rfl (by kernel_rfl) (by decide) (fun K hK => ?_)
         refine goes_ Tryd.func47 (by kernel_rfl) rfl #[.slice A1 x.f1.length c1] (by rfl) rfl rfl (by simp only [List.map_toArray, List.map_cons, List.map_nil]; rfl) ?_
         with_reducible refine (P1.out _ HQ0.out).mono ?_
         rintro e w' ⟨rfl, ⟨q1, rfl⟩⟩
         refine ⟨_, rfl, ?_⟩
         have HQ1 := Aside0.mk (pw_below_drewN HQ0.out q1)
         refine hK.out _ _ ⟨(by exact D0.out), (by exact D1.out), (by exact D2.out), (by exact D3.out), (by exact E0.out), (by exact E1.out), (by exact E2.out)⟩ (fun hHeld => ?_)
         clear hK K
         refine norm_ (a' := ?_) ?_ ?_
         rotate_left
         ·show Act.put _ (some 24) _ = _
          simp only [Act.put, List.setIfInBounds_toArray, List.set_cons_zero, List.set_cons_succ, i64_w, i32_w]
          rfl
         refine pu 3 25 Bz4 rfl rfl (by kernel_rfl) ?_
         refine pu 4 26 Bz5 rfl rfl (by kernel_rfl) ?_
         refine pu 5 27 Bz6 rfl rfl (by kernel_rfl) ?_
         refine take_ (i := 6) (N := some 28) (v := ?_) (a' := ?_) Bz7 rfl rfl (by kernel_rfl) (fun _ _ _ h => h) (Or.inl ⟨by rfl, ?_⟩) hHeld ?_ ?_; rotate_left; (focus rintro w' ⟨s0, s1, s2, s3, s4, s5, s6⟩; go_simp; with_reducible rfl); rotate_left; (focus go_simp; rfl)
         refine one_ (i := 7) (N := some 29) Bz8 rfl rfl (by kernel_rfl) (by decide) (fun K hK => ?_)
         refine goes_ Tryd.func47 (by kernel_rfl) rfl #[.slice A2 x.f2.length c2] (by rfl) rfl rfl (by simp only [List.map_toArray, List.map_cons, List.map_nil]; rfl) ?_
         with_reducible refine (P2.out _ HQ1.out).mono ?_
         rintro e w' ⟨rfl, ⟨q2, rfl⟩⟩
         refine ⟨_, rfl, ?_⟩
         have HQ2 := Aside0.mk (pw_below_drewN HQ1.out q2)
         refine hK.out _ _ ⟨(by exact D0.out), (by exact D1.out), (by exact D2.out), (by exact D3.out), (by exact E0.out), (by exact E1.out), (by exact E2.out)⟩ (fun hHeld => ?_)
         clear hK K
         refine norm_ (a' := ?_) ?_ ?_
         rotate_left
         ·show Act.put _ (some 29) _ = _
          simp only [Act.put, List.setIfInBounds_toArray, List.set_cons_zero, List.set_cons_succ, i64_w, i32_w]
          rfl
         refine pu 8 30 Bz9 rfl rfl (by kernel_rfl) ?_
         refine pu 9 31 Bz10 rfl rfl (by kernel_rfl) ?_
         refine pu 10 32 Bz11 rfl rfl (by kernel_rfl) ?_
         refine pu 11 33 Bz12 rfl rfl (by kernel_rfl) ?_
         refine take_ (i := 12) (N := some 34) (v := ?_) (a' := ?_) Bz13 rfl rfl (by kernel_rfl) (fun _ _ _ h => h) (Or.inl ⟨by rfl, ?_⟩) hHeld ?_ ?_; rotate_left; (focus rintro w' ⟨s0, s1, s2, s3, s4, s5, s6⟩; go_simp; with_reducible rfl); rotate_left; (focus go_simp; rfl)
         refine one_ (i := 13) (N := some 35) Bz14 rfl rfl (by kernel_rfl) (by decide) (fun K hK => ?_)
         refine goes_ Tryd.func47 (by kernel_rfl) rfl #[.slice A3 x.f3.length c3] (by rfl) rfl rfl (by simp only [List.map_toArray, List.map_cons, List.map_nil]; rfl) ?_
         with_reducible refine (P3.out _ HQ2.out).mono ?_
         rintro e w' ⟨rfl, ⟨q3, rfl⟩⟩
         refine ⟨_, rfl, ?_⟩
         have HQ3 := Aside0.mk (pw_below_drewN HQ2.out q3)
         refine hK.out _ _ ⟨(by exact D0.out), (by exact D1.out), (by exact D2.out), (by exact D3.out), (by exact E0.out), (by exact E1.out), (by exact E2.out)⟩ (fun hHeld => ?_)
         clear hK K
         refine norm_ (a' := ?_) ?_ ?_
         rotate_left
         ·show Act.put _ (some 35) _ = _
          simp only [Act.put, List.setIfInBounds_toArray, List.set_cons_zero, List.set_cons_succ, i64_w, i32_w]
          rfl
         refine pu 14 36 Bz15 rfl rfl (by kernel_rfl) ?_
         refine pu 15 37 Bz16 rfl rfl (by kernel_rfl) ?_
         refine pu 16 38 Bz17 rfl rfl (by kernel_rfl) ?_
         refine pu 17 39 Bz18 rfl rfl (by kernel_rfl) ?_
         refine take_ (i := 18) (N := some 40) (v := ?_) (a' := ?_) Bz19 rfl rfl (by kernel_rfl) (fun _ _ _ h => h) (Or.inl ⟨by rfl, ?_⟩) hHeld ?_ ?_; rotate_left; (focus rintro w' ⟨s0, s1, s2, s3, s4, s5, s6⟩; go_simp; with_reducible rfl); rotate_left; (focus go_simp; rfl)
         refine take_ (i := 19) (N := some 41) (v := ?_) (a' := ?_) Bz20 rfl rfl (by kernel_rfl) (fun _ _ _ h => h) (Or.inl ⟨by rfl, ?_⟩) hHeld ?_ ?_; rotate_left; (focus rintro w' ⟨s0, s1, s2, s3, s4, s5, s6⟩; go_simp; with_reducible rfl); rotate_left; (focus go_simp; rfl)
         refine one_ (i := 20) (N := some 42) Bz21 rfl rfl (by kernel_rfl) (by decide) (fun K hK => ?_)
         refine goes_ Tryd.func48 (by kernel_rfl) rfl #[.agg #[.slice A1 x.f1.length c1, .slice A2 x.f2.length c2, .slice A3 x.f3.length c3]] (by rfl) rfl rfl (by simp only [List.map_toArray, List.map_cons, List.map_nil]; rfl) ?_
         with_reducible refine (PK.out _ HQ3.out).mono ?_
         rintro e w3 ⟨rfl, hk⟩
         refine ⟨_, rfl, ?_⟩
         have HK := Aside0.mk hk
         clear hk
         refine hK.out _ _ ⟨(pc_keep HK.out (by exact L0.out) D0.out), (pc_keep HK.out (by exact L0.out) D1.out), (pc_keep HK.out (by exact L0.out) D2.out), (pc_keep HK.out (by exact L0.out) D3.out), (pc_keep HK.out (by exact L1.out) E0.out), (pc_keep HK.out (by exact L1.out) E1.out), (pc_keep HK.out (by exact L1.out) E2.out)⟩ (fun hHeld => ?_)
         clear hK K
         refine norm_ (a' := ?_) ?_ ?_
         rotate_left
         ·show Act.put _ (some 42) _ = _
          simp only [Act.put, List.setIfInBounds_toArray, List.set_cons_zero, List.set_cons_succ, i64_w, i32_w]
          rfl
         refine pu 21 43 Bz22 rfl rfl (by kernel_rfl) ?_
         refine pu 22 44 Bz23 rfl rfl (by kernel_rfl) ?_
         refine pu 23 45 Bz24 rfl rfl (by kernel_rfl) ?_
         refine po 24 46 Bz25 rfl rfl (by kernel_rfl) ?_
         refine po 25 47 Bz26 rfl rfl (by kernel_rfl) ?_
         refine po 26 48 Bz27 rfl rfl (by kernel_rfl) ?_
         refine po 27 49 Bz28 rfl rfl (by kernel_rfl) ?_
         refine po 28 50 Bz29 rfl rfl (by kernel_rfl) ?_
         refine po 29 51 Bz30 rfl rfl (by kernel_rfl) ?_
         refine po 30 52 Bz31 rfl rfl (by kernel_rfl) ?_
         refine po 31 53 Bz32 rfl rfl (by kernel_rfl) ?_
         refine po 32 54 Bz33 rfl rfl (by kernel_rfl) ?_
         refine po 33 55 Bz34 rfl rfl (by kernel_rfl) ?_
         refine po 34 56 Bz35 rfl rfl (by kernel_rfl) ?_
         refine po 35 57 Bz36 rfl rfl (by kernel_rfl) ?_
         refine pu 36 58 Bz37 rfl rfl (by kernel_rfl) ?_
         refine done_ (by kernel_rfl) ?_
         go_wp2_with fail
         go_meet
         exact ⟨congrArg Value.bool (by rw [HV.out, Z1.out]; rfl), ⟨Below.trans HWB.out (Below.trans (Below.mono HQ3.out HWS.out) (Below.mono HK.out (Nat.le_trans HWS.out (by have h_ := Below.size HQ3.out; exact h_))))⟩⟩
    case rest =>
     obtain ⟨rfl, HB2⟩ := hcut
     have hA := HA.out
     rw [HX.out, List.any_cons] at hA
     cases hq : mbad x with
     | true =>
      rw [hq, Bool.true_or] at hA
      have HE := Aside0.mk (show res = 8 by rw [HRES.out, ← hA]; rfl)
      clear hA hq
      go_wp2
      go_ret
      exact ⟨by rw [HE.out]; rfl, HB2.out⟩
     | false =>
      rw [hq, Bool.false_or] at hA
      have HA' := Aside0.mk hA
      clear hA hq
      go_wp2
      go_roundg (l0.length - (j + 1))
      case measure => omega
      case rel => exact ⟨j + 1, by go_num, by omega, by omega, HA', HB2⟩
   ·have q1 : decide ((j : Int) < (l0.length : Int)) = false := decide_eq_false (by omega)
    have HE := Aside0.mk (show l0.any mbad = false by
     rw [← HA.out, List.drop_eq_nil_of_le (by omega)]
     rfl)
    go_wp2
    go_ret
    refine ⟨?_, HB.out⟩
    rw [show res = 0 by rw [HRES.out, HE.out]; rfl]
    rfl
end Go.Proofs.YtpklfaglenkdaaaDoor.Pr
end
section
namespace Go.Proofs.YtpklfaglenkdaaaDoor.Pr
open Go.RowKit Go.Proofs.YtpklfaglenkdaaaDoorW.PrintWords Go.Proofs.YtpklfaglenkdaaaDoorW.PrintLast Go.Proofs.YtpklfaglenkdaaaDoorW.PrintMore
attribute [local go_sem] max2_int min2_int max_two min_two max_three min_three max_four min_four   
def merge_Clashes.l0 : Nat → Int → List (S43) → Int → Int → Option (Int × Int)
 | 0, _, _, _, _ => none
 | k + 1, x5, x13, x14, x15 => if x15 < x14 then (if 0 ≤ x15 then (if x15 < (x13.length : Int) then (if ((rd_T43 x13 x15).f0) = 5 then (merge_Clashes.l0 k (wrap64 (x5 + 1)) x13 x14 (wrap64 (x15 + 1))) else (merge_Clashes.l0 k x5 x13 x14 (wrap64 (x15 + 1)))) else (none)) else (none)) else (some (x5, 0))
def merge_Clashes.f (k : Nat) (l0 : List (S43)) : Option (Int × Int) := (merge_Check.f l0).bind fun t181 => (if t181 = 0 then (merge_Clashes.l0 k 0 l0 (l0.length : Int) 0) else (some (0, t181)))
set_option maxHeartbeats 8000000 in
set_option maxRecDepth 100000 in
theorem merge_Clashes.calls (k : Nat) (A0 : Option Addr) (c0 : Nat) (l0 : List (S43)) (r1 : Int) (r2 : Int) (w : World) (hr0 : Kd.C k43 w A0 l0.length l0) (hc0 : l0.length ≤ c0) (h : merge_Clashes.f k l0 = some (r1, r2)) :
  Calls Tryd.prog 38 #[.slice A0 l0.length c0] w fun e w' => e = .returned (.tuple #[.int .i64 r1, .int .i64 r2]) ∧ Below w.heap.size w w' := by
 have hu43 := Tryd.underlying43
 have HR0 := Aside0.mk hr0
 have HC0 := Aside0.mk hc0
 clear hr0 hc0
 have HB := Aside0.mk (Below.refl w.heap.size w)
 have H : ((merge_Check.f l0).bind fun t181 => (if t181 = 0 then (merge_Clashes.l0 k 0 l0 (l0.length : Int) 0) else (some (0, t181)))) = some (r1, r2) := h
 clear h
 replace H := Option.bind_eq_some_iff.mp H
 obtain ⟨t181, A20, H⟩ := H
 replace H : (if t181 = 0 then (merge_Clashes.l0 k 0 l0 (l0.length : Int) 0) else (some (0, t181))) = some (r1, r2) := H
 have A2 := Aside0.mk A20
 clear A20
 by_cases c3 : t181 = 0
 ·rw [if_pos c3] at H
  have c3b0 : (t181 == 0) = true := beq_iff_eq.mpr c3
  have c3b1 : (t181 != 0) = false := bne_eq_false_iff_eq.mpr c3
  clear c3
  have H' := Aside0.mk H
  clear H
  go_enter Tryd.func38, Tryd.ntmps38
  go_wp2_with (first | ((with_reducible refine gate_callee (f := 28) rfl ?_); refine goesL_ (some 9) rfl rfl Tryd.func28 (by kernel_rfl) rfl #[.slice A0 l0.length c0] rfl (by (try simp only [List.map_toArray, List.map_cons, List.map_nil]); first | done | rfl | (simp only [List.length_drop, List.length_take]; rfl)) ?_; (with_reducible refine (merge_Check.calls _ _ l0 t181 _ ?side1 ?side2 A2.out).mono ?_); (case side1 => repeat (first | exact HR0.out | (with_reducible refine Kd.C_alloc ?_ _) | (with_reducible refine Kd.C_drewN ?_ _) | (with_reducible refine Kd.C_drew ?_))); (case side2 => exact HC0.out); rintro e w4 ⟨rfl, hb⟩; refine ⟨_, rfl, ?_⟩; have n0_ := Aside0.mk (below_step (by repeat (first | (with_reducible first | exact HB.out | apply below_alloc | apply pw_below_drewN | apply below_drew1) | exact HB.out)) hb); clear HB; have HB := n0_; clear n0_; (try clear hb); (try clear hb2); (try clear hk); (try clear hi)))
  go_loopg [5, 15] k (fun kq v5 v15 w' => ∃ (x5_1 : Int) (x15_1 : Int), v5 = .int .i64 x5_1 ∧ v15 = .int .i64 x15_1 ∧ Aside0 (merge_Clashes.l0 kq x5_1 l0 (l0.length : Int) x15_1 = some (r1, r2)) ∧ Aside0 (kq ≤ k) ∧ Aside0 (Below w.heap.size w w'))
  case atStart => exact ⟨(0), (0), (by first | rfl | (simp; done) | (simp [*]; done)), (by first | rfl | (simp; done) | (simp [*]; done)), H', ⟨Nat.le_refl _⟩, ⟨by repeat (first | (with_reducible first | exact HB.out | apply below_alloc | apply pw_below_drewN | apply below_drew1) | exact HB.out)⟩⟩
  case round =>
   clear H'
   try clear c2
   try clear p2
   try clear c3
   try clear c3b0
   try clear c3b1
   obtain ⟨x5_1, x15_1, rfl, rfl, HA, HK1, HB⟩ := hrel
   cases gk with
   | zero => exact absurd HA.out (by simp [merge_Clashes.l0])
   | succ k1 =>
    have H := HA.out
    clear HA
    simp only [merge_Clashes.l0] at H
    by_cases c5 : x15_1 < (l0.length : Int)
    ·rw [if_pos c5] at H
     have c5b0 : decide (x15_1 < (l0.length : Int)) = true := decide_eq_true c5
     clear c5
     by_cases c6 : 0 ≤ x15_1
     ·rw [if_pos c6] at H
      have c6b0 : decide (0 ≤ x15_1) = true := decide_eq_true c6
      clear c6
      by_cases c7 : x15_1 < (l0.length : Int)
      ·rw [if_pos c7] at H
       have c7b0 : decide (x15_1 < (l0.length : Int)) = true := decide_eq_true c7
       clear c7
       by_cases c8 : ((rd_T43 l0 x15_1).f0) = 5
       ·rw [if_pos c8] at H
        have c8b0 : (((rd_T43 l0 x15_1).f0) == 5) = true := beq_iff_eq.mpr c8
        have c8b1 : (((rd_T43 l0 x15_1).f0) != 5) = false := bne_eq_false_iff_eq.mpr c8
        clear c8
        have H' := Aside0.mk H
        clear H
        have p182 : 0 ≤ (x15_1 : Int) := of_decide_eq_true (by first | (with_reducible assumption) | assumption)
        have q182 : x15_1 < (l0.length : Int) := of_decide_eq_true (by first | (with_reducible assumption) | assumption)
        obtain ⟨ad182, A182_1, c182_1, A182_2, c182_2, A182_3, c182_3, e182, hx182_0, hx182_1, hx182_2, hx182_3, hl182_1, hi182_1, hl182_2, hi182_2, hl182_3, hi182_3⟩ := at_T43 HR0.out x15_1 p182 q182
        cases e182
        replace hx182_0 := (HB.out.cell (World.block_lt_of_cell? w _ hx182_0)).trans hx182_0
        replace hx182_1 := (HB.out.cell (World.block_lt_of_cell? w _ hx182_1)).trans hx182_1
        replace hx182_2 := (HB.out.cell (World.block_lt_of_cell? w _ hx182_2)).trans hx182_2
        replace hx182_3 := (HB.out.cell (World.block_lt_of_cell? w _ hx182_3)).trans hx182_3
        have HR182_1 := Aside0.mk hi182_1
        have HC182_1 := Aside0.mk hl182_1
        clear hi182_1 hl182_1
        have HR182_2 := Aside0.mk hi182_2
        have HC182_2 := Aside0.mk hl182_2
        clear hi182_2 hl182_2
        have HR182_3 := Aside0.mk hi182_3
        have HC182_3 := Aside0.mk hl182_3
        clear hi182_3 hl182_3
        replace p182 := eq_true p182
        replace q182 := eq_true q182
        go_wp2_with (first | ((with_reducible refine gate_dst (N := 7) rfl ?_); refine box_event ?hg (N := 7) ?hd (cs := #[.int .u8 0, .slice none 0 0, .slice none 0 0, .slice none 0 0]) (t := 43) ?hr ?_; (case hd => rfl); (case hg => rfl); (case hr => first | (go_simp; done) | (go_simp; rfl)); intro gb183 hg w9 hbox hb; have n0_ := Aside0.mk (below_step (by repeat (first | (with_reducible first | exact HB.out | apply below_alloc | apply pw_below_drewN | apply below_drew1) | exact HB.out)) hb); have n1_ := Aside0.mk (hbox); have n2_ := Aside0.mk ((by rw [hg]; exact (below_size (by repeat (first | (with_reducible first | exact HB.out | apply below_alloc | apply pw_below_drewN | apply below_drew1) | exact HB.out))) : w.heap.size ≤ gb183)); have n3_ := Aside0.mk ((by rw [hg]; exact (below_size (by repeat (first | (with_reducible first | exact HB.out | apply below_alloc | apply pw_below_drewN | apply below_drew1) | exact HB.out))) : w.heap.size ≤ gb183)); clear HB; have HB := n0_; have BK183 := n1_; have GW183 := n2_; have GE183 := n3_; clear n0_ n1_ n2_ n3_; clear hb hbox hg; have hcz10_0 : w9.cell? ⟨gb183, 0, none⟩ = some (.int .u8 0) := (blk_cell BK183.out 0).trans rfl; have hcz10_1 : w9.cell? ⟨gb183, 1, none⟩ = some (.slice none 0 0) := (blk_cell BK183.out 1).trans rfl; have hcz10_2 : w9.cell? ⟨gb183, 2, none⟩ = some (.slice none 0 0) := (blk_cell BK183.out 2).trans rfl; have hcz10_3 : w9.cell? ⟨gb183, 3, none⟩ = some (.slice none 0 0) := (blk_cell BK183.out 3).trans rfl; have hfz10_0 := blk_frozen BK183.out 0; have hfz10_1 := blk_frozen BK183.out 1; have hfz10_2 := blk_frozen BK183.out 2; have hfz10_3 := blk_frozen BK183.out 3))
        go_roundg k1
        case measure => have := HK1.out; omega
        case rel => exact ⟨(wrap64 (x5_1 + 1)), (wrap64 (x15_1 + 1)), (by first | rfl | (simp; done) | (simp [*]; done)), (by first | rfl | (simp; done) | (simp [*]; done)), H', ⟨by have := HK1.out; omega⟩, ⟨by repeat (first | (with_reducible first | exact HB.out | apply below_alloc | apply pw_below_drewN | apply below_drew1 | refine below_set ?_ GE183.out) | exact HB.out)⟩⟩
       ·rw [if_neg c8] at H
        have c8b0 : (((rd_T43 l0 x15_1).f0) == 5) = false := beq_eq_false_iff_ne.mpr c8
        have c8b1 : (((rd_T43 l0 x15_1).f0) != 5) = true := bne_iff_ne.mpr c8
        have H' := Aside0.mk H
        clear H
        have p182 : 0 ≤ (x15_1 : Int) := of_decide_eq_true (by first | (with_reducible assumption) | assumption)
        have q182 : x15_1 < (l0.length : Int) := of_decide_eq_true (by first | (with_reducible assumption) | assumption)
        obtain ⟨ad182, A182_1, c182_1, A182_2, c182_2, A182_3, c182_3, e182, hx182_0, hx182_1, hx182_2, hx182_3, hl182_1, hi182_1, hl182_2, hi182_2, hl182_3, hi182_3⟩ := at_T43 HR0.out x15_1 p182 q182
        cases e182
        replace hx182_0 := (HB.out.cell (World.block_lt_of_cell? w _ hx182_0)).trans hx182_0
        replace hx182_1 := (HB.out.cell (World.block_lt_of_cell? w _ hx182_1)).trans hx182_1
        replace hx182_2 := (HB.out.cell (World.block_lt_of_cell? w _ hx182_2)).trans hx182_2
        replace hx182_3 := (HB.out.cell (World.block_lt_of_cell? w _ hx182_3)).trans hx182_3
        have HR182_1 := Aside0.mk hi182_1
        have HC182_1 := Aside0.mk hl182_1
        clear hi182_1 hl182_1
        have HR182_2 := Aside0.mk hi182_2
        have HC182_2 := Aside0.mk hl182_2
        clear hi182_2 hl182_2
        have HR182_3 := Aside0.mk hi182_3
        have HC182_3 := Aside0.mk hl182_3
        clear hi182_3 hl182_3
        replace p182 := eq_true p182
        replace q182 := eq_true q182
        go_wp2_with (first | ((with_reducible refine gate_dst (N := 7) rfl ?_); refine box_event ?hg (N := 7) ?hd (cs := #[.int .u8 0, .slice none 0 0, .slice none 0 0, .slice none 0 0]) (t := 43) ?hr ?_; (case hd => rfl); (case hg => rfl); (case hr => first | (go_simp; done) | (go_simp; rfl)); intro gb183 hg w11 hbox hb; have n0_ := Aside0.mk (below_step (by repeat (first | (with_reducible first | exact HB.out | apply below_alloc | apply pw_below_drewN | apply below_drew1) | exact HB.out)) hb); have n1_ := Aside0.mk (hbox); have n2_ := Aside0.mk ((by rw [hg]; exact (below_size (by repeat (first | (with_reducible first | exact HB.out | apply below_alloc | apply pw_below_drewN | apply below_drew1) | exact HB.out))) : w.heap.size ≤ gb183)); have n3_ := Aside0.mk ((by rw [hg]; exact (below_size (by repeat (first | (with_reducible first | exact HB.out | apply below_alloc | apply pw_below_drewN | apply below_drew1) | exact HB.out))) : w.heap.size ≤ gb183)); clear HB; have HB := n0_; have BK183 := n1_; have GW183 := n2_; have GE183 := n3_; clear n0_ n1_ n2_ n3_; clear hb hbox hg; have hcz12_0 : w11.cell? ⟨gb183, 0, none⟩ = some (.int .u8 0) := (blk_cell BK183.out 0).trans rfl; have hcz12_1 : w11.cell? ⟨gb183, 1, none⟩ = some (.slice none 0 0) := (blk_cell BK183.out 1).trans rfl; have hcz12_2 : w11.cell? ⟨gb183, 2, none⟩ = some (.slice none 0 0) := (blk_cell BK183.out 2).trans rfl; have hcz12_3 : w11.cell? ⟨gb183, 3, none⟩ = some (.slice none 0 0) := (blk_cell BK183.out 3).trans rfl; have hfz12_0 := blk_frozen BK183.out 0; have hfz12_1 := blk_frozen BK183.out 1; have hfz12_2 := blk_frozen BK183.out 2; have hfz12_3 := blk_frozen BK183.out 3))
        go_roundg k1
        case measure => have := HK1.out; omega
        case rel => exact ⟨(x5_1), (wrap64 (x15_1 + 1)), (by first | rfl | (simp; done) | (simp [*]; done)), (by first | rfl | (simp; done) | (simp [*]; done)), H', ⟨by have := HK1.out; omega⟩, ⟨by repeat (first | (with_reducible first | exact HB.out | apply below_alloc | apply pw_below_drewN | apply below_drew1 | refine below_set ?_ GE183.out) | exact HB.out)⟩⟩
      ·rw [if_neg c7] at H
       exact absurd H (by simp)
     ·rw [if_neg c6] at H
      exact absurd H (by simp)
    ·rw [if_neg c5] at H
     have c5b0 : decide (x15_1 < (l0.length : Int)) = false := decide_eq_false c5
     clear c5
     simp only [Option.some.injEq, Prod.mk.injEq] at H
     obtain ⟨rfl, rfl⟩ := H
     go_wp2
     go_ret2
     exact ⟨by first | rfl | (simp [errW_none, errW_some] <;> rfl) | (simp [*, errW_none, errW_some] <;> rfl), by repeat (first | (with_reducible first | exact HB.out | apply below_alloc | apply pw_below_drewN | apply below_drew1) | exact HB.out)⟩
 ·rw [if_neg c3] at H
  have c3b0 : (t181 == 0) = false := beq_eq_false_iff_ne.mpr c3
  have c3b1 : (t181 != 0) = true := bne_iff_ne.mpr c3
  simp only [Option.some.injEq, Prod.mk.injEq] at H
  obtain ⟨rfl, rfl⟩ := H
  go_enter Tryd.func38, Tryd.ntmps38
  go_wp2_with (first | ((with_reducible refine gate_callee (f := 28) rfl ?_); refine goesL_ (some 9) rfl rfl Tryd.func28 (by kernel_rfl) rfl #[.slice A0 l0.length c0] rfl (by (try simp only [List.map_toArray, List.map_cons, List.map_nil]); first | done | rfl | (simp only [List.length_drop, List.length_take]; rfl)) ?_; (with_reducible refine (merge_Check.calls _ _ l0 t181 _ ?side1 ?side2 A2.out).mono ?_); (case side1 => repeat (first | exact HR0.out | (with_reducible refine Kd.C_alloc ?_ _) | (with_reducible refine Kd.C_drewN ?_ _) | (with_reducible refine Kd.C_drew ?_))); (case side2 => exact HC0.out); rintro e w13 ⟨rfl, hb⟩; refine ⟨_, rfl, ?_⟩; have n0_ := Aside0.mk (below_step (by repeat (first | (with_reducible first | exact HB.out | apply below_alloc | apply pw_below_drewN | apply below_drew1) | exact HB.out)) hb); clear HB; have HB := n0_; clear n0_; (try clear hb); (try clear hb2); (try clear hk); (try clear hi)))
  go_ret2
  exact ⟨by first | rfl | (simp [errW_none, errW_some] <;> rfl) | (simp [*, errW_none, errW_some] <;> rfl), by repeat (first | (with_reducible first | exact HB.out | apply below_alloc | apply pw_below_drewN | apply below_drew1) | exact HB.out)⟩
end Go.Proofs.YtpklfaglenkdaaaDoor.Pr
end
section
namespace Go.Proofs.YtpklfaglenkdaaaDoor.Pr
open Go.RowKit Go.Proofs.YtpklfaglenkdaaaDoorW.PrintWords Go.Proofs.YtpklfaglenkdaaaDoorW.PrintLast Go.Proofs.YtpklfaglenkdaaaDoorW.PrintMore
def joined (l : List ByteArray) : ByteArray := ⟨(Go.Lib.join (l.map (·.data.toList)) [10]).toArray⟩
def smallB (l : List ByteArray) : Bool := l.all fun s => decide (s.size ≤ 140737488351232)
theorem small_of_B {l : List ByteArray} (h : smallB l = true) : small l := fun s hs => of_decide_eq_true (List.all_eq_true.1 h s hs)
theorem B_of_small {l : List ByteArray} (h : small l) : smallB l = true := List.all_eq_true.2 fun s hs => decide_eq_true (h s hs)
theorem join_length (sep : UInt8) : ∀ l : List (List UInt8), (Go.Lib.join l [sep]).length = (l.map List.length).sum + (l.length - 1)
 | [] => by simp [Go.Lib.join]
 | [x] => by simp [Go.Lib.join_one]
 | x :: y :: l => by
  have h := join_length sep (y :: l)
  have e : Go.Lib.join (x :: y :: l) [sep] = x ++ [sep] ++ Go.Lib.join (y :: l) [sep] := by simp [Go.Lib.join, List.intercalate]
  rw [e, List.length_append, List.length_append, h]
  simp
  omega
theorem joined_size (l : List ByteArray) : (joined l).size = bytesIn l + (l.length - 1) := by
 have h := join_length 10 (l.map (·.data.toList))
 have e : ∀ m : List UInt8, (ByteArray.mk m.toArray).size = m.length := fun m => by simp [ByteArray.size]
 unfold joined
 rw [e, h]
 simp [bytesIn]
 congr 2
theorem linesErr_zero {l : List ByteArray} (h : linesErr l = 0) : l.length ≤ 60 ∧ bytesIn l + l.length ≤ 2001 ∧ 0 < l.length ∧ l.any feedy = false := by
 unfold linesErr at h
 split at h
 ·simp at h
 ·split at h
  ·simp at h
  ·split at h
   ·simp at h
   ·split at h
    ·simp at h
    ·rename_i h1 h2 h3 h4
     exact ⟨by omega, by omega, by omega, Bool.eq_false_iff.2 h4⟩
def lines_Join.f (l0 : List ByteArray) : Option (List Int × Int) := if smallB l0 = true then some (if linesErr l0 = 0 then (bytesOf (joined l0), 0) else ([], linesErr l0)) else none
theorem join_val (l : List ByteArray) (hs : small l) : lines_Join.f l = some (if linesErr l = 0 then (bytesOf (joined l), (0 : Int)) else (([] : List Int), linesErr l)) := by
 unfold lines_Join.f
 rw [if_pos (B_of_small hs)]
theorem join_str (A0 : Option Addr) (c0 : Nat) (l0 : List ByteArray) (w : World) (hr0 : Kd.C Kd.string w A0 l0.length l0) (hc0 : l0.length ≤ c0) (he : linesErr l0 = 0) :
  Calls Tryd.prog 56 #[.slice A0 l0.length c0, .string ⟨#[10]⟩] w fun e w' => e = .returned (.string (joined l0)) ∧ Below w.heap.size w w' := by
 obtain ⟨h1, h2, h3, _⟩ := linesErr_zero he
 obtain ⟨b, o, rfl, hb, hc⟩ := C_strings hr0 h3
 have hj := joined_size l0
 refine Tryd.strings_Join b o c0 l0 ⟨#[10]⟩ w hc hb (by omega) hc0 ?_
 have e : (Go.Lib.join (l0.map (·.data.toList)) [10]).length = (joined l0).size := by simp [joined, ByteArray.size]
 show (Go.Lib.join (l0.map (·.data.toList)) [10]).length ≤ 140737488355328
 omega
set_option maxHeartbeats 2000000 in
theorem lines_Join.calls (A0 : Option Addr) (c0 : Nat) (l0 : List ByteArray) (r1 : List Int) (r2 : Int) (w : World) (hr0 : Kd.C Kd.string w A0 l0.length l0) (hc0 : l0.length ≤ c0) (h : lines_Join.f l0 = some (r1, r2)) :
  Calls Tryd.prog 41 #[.slice A0 l0.length c0] w fun e w' => ∃ v0_ : Value, e = .returned (.tuple #[v0_, .int .i64 r2]) ∧ Kd.V (Kd.int .u8) 5 w' w.heap.size (fun k_ => (w.heap.size ≤ k_)) v0_ r1 ∧ Below w.heap.size w w' := by
 unfold lines_Join.f at h
 split at h
 ·rename_i hsm
  have hs := small_of_B hsm
  injection h with h
  obtain ⟨k, hk⟩ := (check_ev l0 hs).rounds
  by_cases he : linesErr l0 = 0
  ·rw [if_pos he] at h
   injection h with h1 h2
   subst h1
   subst h2
   rw [he] at hk
   have HK := Aside0.mk hk
   have HR := Aside0.mk hr0
   have HC := Aside0.mk hc0
   have HE := Aside0.mk he
   obtain ⟨g1, g2, g3, _⟩ := linesErr_zero he
   have HS := Aside0.mk (show (joined l0).size ≤ 9223372036854775807 by have := joined_size l0; omega)
   clear hk hr0 hc0 he hs hsm g1 g2 g3
   obtain ⟨s, es⟩ : ∃ s, s = joined l0 := ⟨_, rfl⟩
   have ES := Aside0.mk es
   clear es
   have kb := fun W => print_bytes (P := Tryd.prog) 9 24 5 Tryd.underlying9 Tryd.underlying24 Tryd.underlying5 s W
   go_enter Tryd.func41, Tryd.ntmps41
   go_wp2_with (first
    | (go_at_call 55; refine (lines_check.calls k A0 c0 l0 0 _ HR.out HC.out HK.out).mono ?_; rintro e w' ⟨rfl, ⟨q, rfl⟩⟩)
    | (go_at_call 56; refine (join_str A0 c0 l0 _ (Kd.C_drewN HR.out _) HC.out HE.out).mono ?_; rw [← ES.out]; rintro e w1 ⟨rfl, hb⟩; have HB := Aside0.mk hb; clear hb))
   go_ret2
   have hB0 := Below.size HB.out
   have hB : w.heap.size ≤ w1.heap.size := hB0
   refine ⟨_, rfl, ?_, ?_⟩
   ·rw [← ES.out]
    exact bytes_V w1 5 s (by rw [ES.out]; exact HS.out) _ (grownCap_ge _ _ _ _) hB
   ·exact bytes_below (below_then (pw_below_drewN (Below.refl w.heap.size w) q) (Nat.le_refl _) HB.out) hB 5 s
  ·rw [if_neg he] at h
   injection h with h1 h2
   subst h1
   obtain ⟨n, hn⟩ : ∃ n, n = linesErr l0 := ⟨_, rfl⟩
   rw [← hn] at hk he h2
   subst h2
   clear hn
   have HK := Aside0.mk hk
   have HR := Aside0.mk hr0
   have HC := Aside0.mk hc0
   clear hk hr0 hc0 hs hsm
   have he1 : (n == 0) = false := by simpa using he
   have he2 : (n != 0) = true := by simpa using he
   clear he
   go_enter Tryd.func41, Tryd.ntmps41
   go_wp2_with (go_at_call 55; refine (lines_check.calls k A0 c0 l0 n _ HR.out HC.out HK.out).mono ?_; rintro e w' ⟨rfl, ⟨q, rfl⟩⟩)
   go_ret2
   exact ⟨_, rfl, Kd.V_nil _ _ _ _ _, pw_below_drewN (Below.refl _ _) _⟩
 ·cases h
end Go.Proofs.YtpklfaglenkdaaaDoor.Pr
end
