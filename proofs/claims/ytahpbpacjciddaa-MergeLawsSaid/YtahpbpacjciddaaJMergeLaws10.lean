/- Part 10 of the proof of MergeLaws: texts put together. -/
import Derived.Test.YtahpbpacjciddaaJMergeLaws4
import Derived.Test.YtahpbpacjciddaaJMergeLaws9
import Derived.IntWalk
import Derived.Deep.RegionHeld3
namespace Go.Proofs.Ytahpbpacjciddaa.Pr
open Go.RowKit Go.Proofs.YtahpbpacjciddaaW.PrintWords Go.Proofs.YtahpbpacjciddaaW.PrintLast Go.Proofs.YtahpbpacjciddaaW.PrintMore
set_option linter.unusedVariables false
set_option linter.unusedSimpArgs false
def mplainB (l : List ByteArray) : Bool := decide (l.length ≤ 60) && !l.any widey
def mbad (x : S34) : Bool := !mplainB x.f1 || (!mplainB x.f2 || (!mplainB x.f3 || (decide (x.f0 ≠ kindB x.f1 x.f2 x.f3) || decide (x.f1.length + x.f2.length + x.f3.length = 0))))
def merge_Check.f (l0 : List S34) : Option Int := some (if 130 < l0.length then 4 else if l0.any mbad = true then 8 else 0)
theorem mplain_any (A0 : Option Addr) (c0 : Nat) (l0 : List ByteArray) (w : World) (hr0 : Kd.C Kd.string w A0 l0.length l0) (hc0 : l0.length ≤ c0) :
    Calls Try.prog 36 #[.slice A0 l0.length c0] w fun e w' => e = .returned (.bool (mplainB l0)) ∧ Drawn0 w w' := merge_plain.calls A0 c0 l0 _ w hr0 hc0 rfl
theorem mplain_len {l : List ByteArray} (h : mplainB l = true) : l.length ≤ 60 := by
  simp only [mplainB, Bool.and_eq_true, decide_eq_true_eq] at h
  exact h.1
abbrev merge_Check.Bz0 : Array Bool := #[false, false, false, false, false, false, false, false, false, false, false, false, false, false, false, false, false, false, false, false, false, false, false, false, false, false, false, false, false, false, false, false, false, false, false, false, false]
abbrev merge_Check.Bz1 : Array Bool := #[true, false, false, false, false, false, false, false, false, false, false, false, false, false, false, false, false, false, false, false, false, false, false, false, false, false, false, false, false, false, false, false, false, false, false, false, false]
abbrev merge_Check.Bz2 : Array Bool := #[true, true, false, false, false, false, false, false, false, false, false, false, false, false, false, false, false, false, false, false, false, false, false, false, false, false, false, false, false, false, false, false, false, false, false, false, false]
abbrev merge_Check.Bz3 : Array Bool := #[true, true, true, false, false, false, false, false, false, false, false, false, false, false, false, false, false, false, false, false, false, false, false, false, false, false, false, false, false, false, false, false, false, false, false, false, false]
abbrev merge_Check.Bz4 : Array Bool := #[true, true, true, true, false, false, false, false, false, false, false, false, false, false, false, false, false, false, false, false, false, false, false, false, false, false, false, false, false, false, false, false, false, false, false, false, false]
abbrev merge_Check.Bz5 : Array Bool := #[true, true, true, true, true, false, false, false, false, false, false, false, false, false, false, false, false, false, false, false, false, false, false, false, false, false, false, false, false, false, false, false, false, false, false, false, false]
abbrev merge_Check.Bz6 : Array Bool := #[true, true, true, true, true, true, false, false, false, false, false, false, false, false, false, false, false, false, false, false, false, false, false, false, false, false, false, false, false, false, false, false, false, false, false, false, false]
abbrev merge_Check.Bz7 : Array Bool := #[true, true, true, true, true, true, true, false, false, false, false, false, false, false, false, false, false, false, false, false, false, false, false, false, false, false, false, false, false, false, false, false, false, false, false, false, false]
abbrev merge_Check.Bz8 : Array Bool := #[true, true, true, true, true, true, true, true, false, false, false, false, false, false, false, false, false, false, false, false, false, false, false, false, false, false, false, false, false, false, false, false, false, false, false, false, false]
abbrev merge_Check.Bz9 : Array Bool := #[true, true, true, true, true, true, true, true, true, false, false, false, false, false, false, false, false, false, false, false, false, false, false, false, false, false, false, false, false, false, false, false, false, false, false, false, false]
abbrev merge_Check.Bz10 : Array Bool := #[true, true, true, true, true, true, true, true, true, true, false, false, false, false, false, false, false, false, false, false, false, false, false, false, false, false, false, false, false, false, false, false, false, false, false, false, false]
abbrev merge_Check.Bz11 : Array Bool := #[true, true, true, true, true, true, true, true, true, true, true, false, false, false, false, false, false, false, false, false, false, false, false, false, false, false, false, false, false, false, false, false, false, false, false, false, false]
abbrev merge_Check.Bz12 : Array Bool := #[true, true, true, true, true, true, true, true, true, true, true, true, false, false, false, false, false, false, false, false, false, false, false, false, false, false, false, false, false, false, false, false, false, false, false, false, false]
abbrev merge_Check.Bz13 : Array Bool := #[true, true, true, true, true, true, true, true, true, true, true, true, true, false, false, false, false, false, false, false, false, false, false, false, false, false, false, false, false, false, false, false, false, false, false, false, false]
abbrev merge_Check.Bz14 : Array Bool := #[true, true, true, true, true, true, true, true, true, true, true, true, true, true, false, false, false, false, false, false, false, false, false, false, false, false, false, false, false, false, false, false, false, false, false, false, false]
abbrev merge_Check.Bz15 : Array Bool := #[true, true, true, true, true, true, true, true, true, true, true, true, true, true, true, false, false, false, false, false, false, false, false, false, false, false, false, false, false, false, false, false, false, false, false, false, false]
abbrev merge_Check.Bz16 : Array Bool := #[true, true, true, true, true, true, true, true, true, true, true, true, true, true, true, true, false, false, false, false, false, false, false, false, false, false, false, false, false, false, false, false, false, false, false, false, false]
abbrev merge_Check.Bz17 : Array Bool := #[true, true, true, true, true, true, true, true, true, true, true, true, true, true, true, true, true, false, false, false, false, false, false, false, false, false, false, false, false, false, false, false, false, false, false, false, false]
abbrev merge_Check.Bz18 : Array Bool := #[true, true, true, true, true, true, true, true, true, true, true, true, true, true, true, true, true, true, false, false, false, false, false, false, false, false, false, false, false, false, false, false, false, false, false, false, false]
abbrev merge_Check.Bz19 : Array Bool := #[true, true, true, true, true, true, true, true, true, true, true, true, true, true, true, true, true, true, true, false, false, false, false, false, false, false, false, false, false, false, false, false, false, false, false, false, false]
abbrev merge_Check.Bz20 : Array Bool := #[true, true, true, true, true, true, true, true, true, true, true, true, true, true, true, true, true, true, true, true, false, false, false, false, false, false, false, false, false, false, false, false, false, false, false, false, false]
abbrev merge_Check.Bz21 : Array Bool := #[true, true, true, true, true, true, true, true, true, true, true, true, true, true, true, true, true, true, true, true, true, false, false, false, false, false, false, false, false, false, false, false, false, false, false, false, false]
abbrev merge_Check.Bz22 : Array Bool := #[true, true, true, true, true, true, true, true, true, true, true, true, true, true, true, true, true, true, true, true, true, true, false, false, false, false, false, false, false, false, false, false, false, false, false, false, false]
abbrev merge_Check.Bz23 : Array Bool := #[true, true, true, true, true, true, true, true, true, true, true, true, true, true, true, true, true, true, true, true, true, true, true, false, false, false, false, false, false, false, false, false, false, false, false, false, false]
abbrev merge_Check.Bz24 : Array Bool := #[true, true, true, true, true, true, true, true, true, true, true, true, true, true, true, true, true, true, true, true, true, true, true, true, false, false, false, false, false, false, false, false, false, false, false, false, false]
abbrev merge_Check.Bz25 : Array Bool := #[true, true, true, true, true, true, true, true, true, true, true, true, true, true, true, true, true, true, true, true, true, true, true, true, true, false, false, false, false, false, false, false, false, false, false, false, false]
abbrev merge_Check.Bz26 : Array Bool := #[true, true, true, true, true, true, true, true, true, true, true, true, true, true, true, true, true, true, true, true, true, true, true, true, true, true, false, false, false, false, false, false, false, false, false, false, false]
abbrev merge_Check.Bz27 : Array Bool := #[true, true, true, true, true, true, true, true, true, true, true, true, true, true, true, true, true, true, true, true, true, true, true, true, true, true, true, false, false, false, false, false, false, false, false, false, false]
abbrev merge_Check.Bz28 : Array Bool := #[true, true, true, true, true, true, true, true, true, true, true, true, true, true, true, true, true, true, true, true, true, true, true, true, true, true, true, true, false, false, false, false, false, false, false, false, false]
abbrev merge_Check.Bz29 : Array Bool := #[true, true, true, true, true, true, true, true, true, true, true, true, true, true, true, true, true, true, true, true, true, true, true, true, true, true, true, true, true, false, false, false, false, false, false, false, false]
abbrev merge_Check.Bz30 : Array Bool := #[true, true, true, true, true, true, true, true, true, true, true, true, true, true, true, true, true, true, true, true, true, true, true, true, true, true, true, true, true, true, false, false, false, false, false, false, false]
abbrev merge_Check.Bz31 : Array Bool := #[true, true, true, true, true, true, true, true, true, true, true, true, true, true, true, true, true, true, true, true, true, true, true, true, true, true, true, true, true, true, true, false, false, false, false, false, false]
abbrev merge_Check.Bz32 : Array Bool := #[true, true, true, true, true, true, true, true, true, true, true, true, true, true, true, true, true, true, true, true, true, true, true, true, true, true, true, true, true, true, true, true, false, false, false, false, false]
abbrev merge_Check.Bz33 : Array Bool := #[true, true, true, true, true, true, true, true, true, true, true, true, true, true, true, true, true, true, true, true, true, true, true, true, true, true, true, true, true, true, true, true, true, false, false, false, false]
abbrev merge_Check.Bz34 : Array Bool := #[true, true, true, true, true, true, true, true, true, true, true, true, true, true, true, true, true, true, true, true, true, true, true, true, true, true, true, true, true, true, true, true, true, true, false, false, false]
abbrev merge_Check.Bz35 : Array Bool := #[true, true, true, true, true, true, true, true, true, true, true, true, true, true, true, true, true, true, true, true, true, true, true, true, true, true, true, true, true, true, true, true, true, true, true, false, false]
abbrev merge_Check.Bz36 : Array Bool := #[true, true, true, true, true, true, true, true, true, true, true, true, true, true, true, true, true, true, true, true, true, true, true, true, true, true, true, true, true, true, true, true, true, true, true, true, false]
abbrev merge_Check.Bz37 : Array Bool := #[true, true, true, true, true, true, true, true, true, true, true, true, true, true, true, true, true, true, true, true, true, true, true, true, true, true, true, true, true, true, true, true, true, true, true, true, true]
open merge_Check in
set_option maxHeartbeats 8000000 in
set_option maxRecDepth 100000 in
theorem merge_Check.calls (A0 : Option Addr) (c0 : Nat) (l0 : List S34) (r : Int) (w : World) (hr0 : Kd.C k34 w A0 l0.length l0) (hc0 : l0.length ≤ c0) (h : merge_Check.f l0 = some r) :
  Calls Try.prog 20 #[.slice A0 l0.length c0] w fun e w' => e = .returned (.int .i64 r) ∧ Below w.heap.size w w' := by
 have hbig : l0.length ≤ 9223372036854775807 := hr0.2.1
 have HR0 := Aside0.mk hr0
 obtain rfl := Option.some.inj h
 clear h hr0
 by_cases hm : 130 < l0.length
 ·rw [if_pos hm]
  have m1 : decide ((130 : Int) < (l0.length : Int)) = true := decide_eq_true (by omega)
  have m2 : decide (130 < l0.length) = true := decide_eq_true hm
  clear hm
  go_enter Try.func20, Try.ntmps20
  go_wp2
  go_ret
  exact ⟨rfl, Below.refl _ _⟩
 ·rw [if_neg hm]
  have m1 : decide ((130 : Int) < (l0.length : Int)) = false := decide_eq_false (by omega)
  have m2 : decide (130 < l0.length) = false := decide_eq_false hm
  have hl : l0.length ≤ 130 := by omega
  clear hm hbig
  obtain ⟨res, hres⟩ : ∃ res : Int, res = (if l0.any mbad = true then 8 else 0) := ⟨_, rfl⟩
  rw [← hres]
  have HRES := Aside0.mk hres
  clear hres
  go_enter Try.func20, Try.ntmps20
  go_wp2
  clear m1 m2
  go_loopg [11] l0.length (fun nq v11 wr => ∃ j : Nat, v11 = .int .i64 (j : Int) ∧ j ≤ l0.length ∧ l0.length - j ≤ nq ∧ Aside0 ((l0.drop j).any mbad = l0.any mbad) ∧ Aside0 (Below w.heap.size w wr))
  case atStart => exact ⟨0, rfl, by omega, by omega, ⟨rfl⟩, ⟨Below.refl _ _⟩⟩
  case round =>
   obtain ⟨j, rfl, hj, hjq, HA, HB⟩ := hrel
   by_cases hlt : j < l0.length
   ·have q1 : decide ((j : Int) < (l0.length : Int)) = true := decide_eq_true (by omega)
    obtain ⟨ad, A1, c1, A2, c2, A3, c3, rfl, k0, k1, k2, k3, n1, g1, n2, g2, n3, g3⟩ := at_T34 (Kd.C_below HR0.out HB.out) (j : Int) (by omega) (by omega)
    have hx : l0.drop j = rd_T34 l0 (j : Int) :: l0.drop (j + 1) := by
     rw [List.drop_eq_getElem_cons hlt]
     unfold rd_T34
     rw [Int.toNat_natCast, List.getD_eq_getElem?_getD, List.getElem?_eq_getElem hlt]
     rfl
    obtain ⟨x, hxe⟩ : ∃ x, x = rd_T34 l0 (j : Int) := ⟨_, rfl⟩
    rw [← hxe] at k0 k1 k2 k3 n1 g1 n2 g2 n3 g3 hx
    have HX := Aside0.mk hx
    clear hxe hx
    simp only [Int.toNat_natCast] at k0 k1 k2 k3
    obtain ⟨W, hW⟩ : ∃ W, W = (wr.alloc (.cells #[.int .u8 x.f0, .slice A1 x.f1.length c1, .slice A2 x.f2.length c2, .slice A3 x.f3.length c3] 34)).alloc (.cells #[.slice A1 x.f1.length c1, .slice A2 x.f2.length c2, .slice A3 x.f3.length c3] 55) := ⟨_, rfl⟩
    go_upto_region 7 with fail
    rw [← hW]
    have hWB : Below wr.heap.size wr W := by rw [hW]; exact ((Below.refl _ _).alloc (Nat.le_refl _) _).alloc (by simp) _
    have hsz : W.heap.size = wr.heap.size + 2 := by rw [hW]; simp
    have D0 := Aside0.mk (show W.cell? ⟨wr.heap.size, 0, none⟩ = some (.int .u8 x.f0) by rw [hW]; go_simp)
    have D1 := Aside0.mk (show W.cell? ⟨wr.heap.size, 1, none⟩ = some (.slice A1 x.f1.length c1) by rw [hW]; go_simp)
    have D2 := Aside0.mk (show W.cell? ⟨wr.heap.size, 2, none⟩ = some (.slice A2 x.f2.length c2) by rw [hW]; go_simp)
    have D3 := Aside0.mk (show W.cell? ⟨wr.heap.size, 3, none⟩ = some (.slice A3 x.f3.length c3) by rw [hW]; go_simp)
    have E0 := Aside0.mk (show W.cell? ⟨wr.heap.size + 1, 0, none⟩ = some (.slice A1 x.f1.length c1) by rw [hW]; go_simp)
    have E1 := Aside0.mk (show W.cell? ⟨wr.heap.size + 1, 1, none⟩ = some (.slice A2 x.f2.length c2) by rw [hW]; go_simp)
    have E2 := Aside0.mk (show W.cell? ⟨wr.heap.size + 1, 2, none⟩ = some (.slice A3 x.f3.length c3) by rw [hW]; go_simp)
    have L0 := Aside0.mk (show wr.heap.size < W.heap.size by omega)
    have L1 := Aside0.mk (show wr.heap.size + 1 < W.heap.size by omega)
    have HWB := Aside0.mk (Below.trans HB.out (Below.mono hWB (Below.size HB.out)))
    have P1' := fun X (hX : Below W.heap.size W X) => mplain_any A1 c1 x.f1 X (Kd.C_below (Kd.C_below g1 hWB) hX) n1
    have P2' := fun X (hX : Below W.heap.size W X) => mplain_any A2 c2 x.f2 X (Kd.C_below (Kd.C_below g2 hWB) hX) n2
    have P3' := fun X (hX : Below W.heap.size W X) => mplain_any A3 c3 x.f3 X (Kd.C_below (Kd.C_below g3 hWB) hX) n3
    have PK' := Aside0.mk (fun X (hX : Below W.heap.size W X) h1 h2 h3 => merge_kind.calls A1 c1 x.f1 A2 c2 x.f2 A3 c3 x.f3 X (Kd.C_below (Kd.C_below g1 hWB) hX) n1 (Kd.C_below (Kd.C_below g2 hWB) hX) n2 (Kd.C_below (Kd.C_below g3 hWB) hX) n3 h1 h2 h3)
    clear hW hWB hsz g1 g2 g3 n1 n2 n3 k0 k1 k2 k3
    have HWS := Aside0.mk (Below.size HWB.out)
    have HQ0 := Aside0.mk (show Below W.heap.size W W.drew from below_drew1 (Below.refl _ _))
    go_cut [58] (fun s58 wz => s58 = .bool (mbad x) ∧ Aside0 (Below w.heap.size w wz))
    case first =>
     cases b1 : mplainB x.f1 with
     | false =>
      rw [b1] at P1'
      have P1 := Aside0.mk P1'
      have HV := Aside0.mk (show mbad x = true by unfold mbad; rw [b1]; rfl)
      clear P1' P2' P3' PK' b1
      refine start_ (n := 37) (S := fun w' => w'.cell? ⟨wr.heap.size, 0, none⟩ = some (.int .u8 x.f0) ∧ w'.cell? ⟨wr.heap.size, 1, none⟩ = some (.slice A1 x.f1.length c1) ∧ w'.cell? ⟨wr.heap.size, 2, none⟩ = some (.slice A2 x.f2.length c2) ∧ w'.cell? ⟨wr.heap.size, 3, none⟩ = some (.slice A3 x.f3.length c3) ∧ w'.cell? ⟨wr.heap.size + 1, 0, none⟩ = some (.slice A1 x.f1.length c1) ∧ w'.cell? ⟨wr.heap.size + 1, 1, none⟩ = some (.slice A2 x.f2.length c2) ∧ w'.cell? ⟨wr.heap.size + 1, 2, none⟩ = some (.slice A3 x.f3.length c3)) (ds := []) Bz0 (by kernel_rfl) rfl rfl ⟨(by exact D0.out), (by exact D1.out), (by exact D2.out), (by exact D3.out), (by exact E0.out), (by exact E1.out), (by exact E2.out)⟩ (fun hHeld => ?_)
      refine pure_ (i := 0) (N := some 22) (v := ?_) (a' := ?_) Bz1 rfl rfl (by kernel_rfl) (fun _ _ _ h => h) (Or.inl ⟨by rfl, ?_⟩) ?_ ?_; rotate_left; (focus intro w'; go_simp; with_reducible rfl); rotate_left; (focus go_simp; rfl)
      refine take_ (i := 1) (N := some 23) (v := ?_) (a' := ?_) Bz2 rfl rfl (by kernel_rfl) (fun _ _ _ h => h) (Or.inl ⟨by rfl, ?_⟩) hHeld ?_ ?_; rotate_left; (focus rintro w' ⟨s0, s1, s2, s3, s4, s5, s6⟩; go_simp; with_reducible rfl); rotate_left; (focus go_simp; rfl)
      refine one_ (i := 2) (N := some 24) Bz3 rfl rfl (by kernel_rfl) (by decide) (fun K hK => ?_)
      refine goes_ Try.func36 (by kernel_rfl) rfl #[.slice A1 x.f1.length c1] (by rfl) rfl rfl (by simp only [List.map_toArray, List.map_cons, List.map_nil]; rfl) ?_
      with_reducible refine (P1.out _ HQ0.out).mono ?_
      rintro e w' ⟨rfl, ⟨q1, rfl⟩⟩
      refine ⟨_, rfl, ?_⟩
      have HQ1 := Aside0.mk (pw_below_drewN HQ0.out q1)
      refine hK.out _ _ ⟨(by exact D0.out), (by exact D1.out), (by exact D2.out), (by exact D3.out), (by exact E0.out), (by exact E1.out), (by exact E2.out)⟩ (fun hHeld => ?_)
      clear hK K
      refine norm_ (a' := ?_) ?_ ?_
      rotate_left
      ·show Act.put _ (some 24) _ = _
       simp only [Act.put, List.setIfInBounds_toArray, List.set_cons_zero, List.set_cons_succ, i64_w, i32_w]
       rfl
      refine pure_ (i := 3) (N := some 25) (v := ?_) (a' := ?_) Bz4 rfl rfl (by kernel_rfl) (fun _ _ _ h => h) (Or.inl ⟨by rfl, ?_⟩) ?_ ?_; rotate_left; (focus intro w'; go_simp; with_reducible rfl); rotate_left; (focus go_simp; rfl)
      refine pure_ (i := 4) (N := some 26) (v := ?_) (a' := ?_) Bz5 rfl rfl (by kernel_rfl) (fun _ _ _ h => h) (Or.inl ⟨by rfl, ?_⟩) ?_ ?_; rotate_left; (focus intro w'; go_simp; with_reducible rfl); rotate_left; (focus go_simp; rfl)
      refine pure_ (i := 5) (N := some 27) (v := undef) (a' := ?_) Bz6 rfl rfl (by kernel_rfl) (fun _ _ _ h => h) (Or.inr ⟨by rfl, rfl⟩) ?_ ?_; rotate_left; (focus go_simp; rfl)
      refine pure_ (i := 6) (N := some 28) (v := undef) (a' := ?_) Bz7 rfl rfl (by kernel_rfl) (fun _ _ _ h => h) (Or.inr ⟨by rfl, rfl⟩) ?_ ?_; rotate_left; (focus go_simp; rfl)
      refine pure_ (i := 7) (N := some 29) (v := undef) (a' := ?_) Bz8 rfl rfl (by kernel_rfl) (fun _ _ _ h => h) (Or.inr ⟨by rfl, rfl⟩) ?_ ?_; rotate_left; (focus go_simp; rfl)
      refine pure_ (i := 8) (N := some 30) (v := undef) (a' := ?_) Bz9 rfl rfl (by kernel_rfl) (fun _ _ _ h => h) (Or.inr ⟨by rfl, rfl⟩) ?_ ?_; rotate_left; (focus go_simp; rfl)
      refine pure_ (i := 9) (N := some 31) (v := ?_) (a' := ?_) Bz10 rfl rfl (by kernel_rfl) (fun _ _ _ h => h) (Or.inl ⟨by rfl, ?_⟩) ?_ ?_; rotate_left; (focus intro w'; go_simp; with_reducible rfl); rotate_left; (focus go_simp; rfl)
      refine pure_ (i := 10) (N := some 32) (v := ?_) (a' := ?_) Bz11 rfl rfl (by kernel_rfl) (fun _ _ _ h => h) (Or.inl ⟨by rfl, ?_⟩) ?_ ?_; rotate_left; (focus intro w'; go_simp; with_reducible rfl); rotate_left; (focus go_simp; rfl)
      refine pure_ (i := 11) (N := some 33) (v := undef) (a' := ?_) Bz12 rfl rfl (by kernel_rfl) (fun _ _ _ h => h) (Or.inr ⟨by rfl, rfl⟩) ?_ ?_; rotate_left; (focus go_simp; rfl)
      refine pure_ (i := 12) (N := some 34) (v := undef) (a' := ?_) Bz13 rfl rfl (by kernel_rfl) (fun _ _ _ h => h) (Or.inr ⟨by rfl, rfl⟩) ?_ ?_; rotate_left; (focus go_simp; rfl)
      refine pure_ (i := 13) (N := some 35) (v := undef) (a' := ?_) Bz14 rfl rfl (by kernel_rfl) (fun _ _ _ h => h) (Or.inr ⟨by rfl, rfl⟩) ?_ ?_; rotate_left; (focus go_simp; rfl)
      refine pure_ (i := 14) (N := some 36) (v := undef) (a' := ?_) Bz15 rfl rfl (by kernel_rfl) (fun _ _ _ h => h) (Or.inr ⟨by rfl, rfl⟩) ?_ ?_; rotate_left; (focus go_simp; rfl)
      refine pure_ (i := 15) (N := some 37) (v := ?_) (a' := ?_) Bz16 rfl rfl (by kernel_rfl) (fun _ _ _ h => h) (Or.inl ⟨by rfl, ?_⟩) ?_ ?_; rotate_left; (focus intro w'; go_simp; with_reducible rfl); rotate_left; (focus go_simp; rfl)
      refine pure_ (i := 16) (N := some 38) (v := ?_) (a' := ?_) Bz17 rfl rfl (by kernel_rfl) (fun _ _ _ h => h) (Or.inl ⟨by rfl, ?_⟩) ?_ ?_; rotate_left; (focus intro w'; go_simp; with_reducible rfl); rotate_left; (focus go_simp; rfl)
      refine pure_ (i := 17) (N := some 39) (v := undef) (a' := ?_) Bz18 rfl rfl (by kernel_rfl) (fun _ _ _ h => h) (Or.inr ⟨by rfl, rfl⟩) ?_ ?_; rotate_left; (focus go_simp; rfl)
      refine pure_ (i := 18) (N := some 40) (v := undef) (a' := ?_) Bz19 rfl rfl (by kernel_rfl) (fun _ _ _ h => h) (Or.inr ⟨by rfl, rfl⟩) ?_ ?_; rotate_left; (focus go_simp; rfl)
      refine pure_ (i := 19) (N := some 41) (v := undef) (a' := ?_) Bz20 rfl rfl (by kernel_rfl) (fun _ _ _ h => h) (Or.inr ⟨by rfl, rfl⟩) ?_ ?_; rotate_left; (focus go_simp; rfl)
      refine pure_ (i := 20) (N := some 42) (v := undef) (a' := ?_) Bz21 rfl rfl (by kernel_rfl) (fun _ _ _ h => h) (Or.inr ⟨by rfl, rfl⟩) ?_ ?_; rotate_left; (focus go_simp; rfl)
      refine pure_ (i := 21) (N := some 43) (v := undef) (a' := ?_) Bz22 rfl rfl (by kernel_rfl) (fun _ _ _ h => h) (Or.inr ⟨by rfl, rfl⟩) ?_ ?_; rotate_left; (focus go_simp; rfl)
      refine pure_ (i := 22) (N := some 44) (v := ?_) (a' := ?_) Bz23 rfl rfl (by kernel_rfl) (fun _ _ _ h => h) (Or.inl ⟨by rfl, ?_⟩) ?_ ?_; rotate_left; (focus intro w'; go_simp; with_reducible rfl); rotate_left; (focus go_simp; rfl)
      refine pure_ (i := 23) (N := some 45) (v := ?_) (a' := ?_) Bz24 rfl rfl (by kernel_rfl) (fun _ _ _ h => h) (Or.inl ⟨by rfl, ?_⟩) ?_ ?_; rotate_left; (focus intro w'; go_simp; with_reducible rfl); rotate_left; (focus go_simp; rfl)
      refine pure_ (i := 24) (N := some 46) (v := undef) (a' := ?_) Bz25 rfl rfl (by kernel_rfl) (fun _ _ _ h => h) (Or.inr ⟨by rfl, rfl⟩) ?_ ?_; rotate_left; (focus go_simp; rfl)
      refine pure_ (i := 25) (N := some 47) (v := undef) (a' := ?_) Bz26 rfl rfl (by kernel_rfl) (fun _ _ _ h => h) (Or.inr ⟨by rfl, rfl⟩) ?_ ?_; rotate_left; (focus go_simp; rfl)
      refine pure_ (i := 26) (N := some 48) (v := undef) (a' := ?_) Bz27 rfl rfl (by kernel_rfl) (fun _ _ _ h => h) (Or.inr ⟨by rfl, rfl⟩) ?_ ?_; rotate_left; (focus go_simp; rfl)
      refine pure_ (i := 27) (N := some 49) (v := undef) (a' := ?_) Bz28 rfl rfl (by kernel_rfl) (fun _ _ _ h => h) (Or.inr ⟨by rfl, rfl⟩) ?_ ?_; rotate_left; (focus go_simp; rfl)
      refine pure_ (i := 28) (N := some 50) (v := undef) (a' := ?_) Bz29 rfl rfl (by kernel_rfl) (fun _ _ _ h => h) (Or.inr ⟨by rfl, rfl⟩) ?_ ?_; rotate_left; (focus go_simp; rfl)
      refine pure_ (i := 29) (N := some 51) (v := undef) (a' := ?_) Bz30 rfl rfl (by kernel_rfl) (fun _ _ _ h => h) (Or.inr ⟨by rfl, rfl⟩) ?_ ?_; rotate_left; (focus go_simp; rfl)
      refine pure_ (i := 30) (N := some 52) (v := undef) (a' := ?_) Bz31 rfl rfl (by kernel_rfl) (fun _ _ _ h => h) (Or.inr ⟨by rfl, rfl⟩) ?_ ?_; rotate_left; (focus go_simp; rfl)
      refine pure_ (i := 31) (N := some 53) (v := undef) (a' := ?_) Bz32 rfl rfl (by kernel_rfl) (fun _ _ _ h => h) (Or.inr ⟨by rfl, rfl⟩) ?_ ?_; rotate_left; (focus go_simp; rfl)
      refine pure_ (i := 32) (N := some 54) (v := undef) (a' := ?_) Bz33 rfl rfl (by kernel_rfl) (fun _ _ _ h => h) (Or.inr ⟨by rfl, rfl⟩) ?_ ?_; rotate_left; (focus go_simp; rfl)
      refine pure_ (i := 33) (N := some 55) (v := undef) (a' := ?_) Bz34 rfl rfl (by kernel_rfl) (fun _ _ _ h => h) (Or.inr ⟨by rfl, rfl⟩) ?_ ?_; rotate_left; (focus go_simp; rfl)
      refine pure_ (i := 34) (N := some 56) (v := undef) (a' := ?_) Bz35 rfl rfl (by kernel_rfl) (fun _ _ _ h => h) (Or.inr ⟨by rfl, rfl⟩) ?_ ?_; rotate_left; (focus go_simp; rfl)
      refine pure_ (i := 35) (N := some 57) (v := undef) (a' := ?_) Bz36 rfl rfl (by kernel_rfl) (fun _ _ _ h => h) (Or.inr ⟨by rfl, rfl⟩) ?_ ?_; rotate_left; (focus go_simp; rfl)
      refine pure_ (i := 36) (N := some 58) (v := ?_) (a' := ?_) Bz37 rfl rfl (by kernel_rfl) (fun _ _ _ h => h) (Or.inl ⟨by rfl, ?_⟩) ?_ ?_; rotate_left; (focus intro w'; go_simp; with_reducible rfl); rotate_left; (focus go_simp; rfl)
      refine done_ (by kernel_rfl) ?_
      go_wp2_with fail
      go_meet
      exact ⟨congrArg Value.bool HV.out.symm, ⟨Below.trans HWB.out (Below.mono HQ1.out HWS.out)⟩⟩
     | true =>
      have l1 := mplain_len b1
      rw [b1] at P1'
      have P1 := Aside0.mk P1'
      cases b2 : mplainB x.f2 with
      | false =>
       rw [b2] at P2'
       have P2 := Aside0.mk P2'
       have HV := Aside0.mk (show mbad x = true by unfold mbad; rw [b1, b2]; rfl)
       clear P1' P2' P3' PK' b1 b2
       refine start_ (n := 37) (S := fun w' => w'.cell? ⟨wr.heap.size, 0, none⟩ = some (.int .u8 x.f0) ∧ w'.cell? ⟨wr.heap.size, 1, none⟩ = some (.slice A1 x.f1.length c1) ∧ w'.cell? ⟨wr.heap.size, 2, none⟩ = some (.slice A2 x.f2.length c2) ∧ w'.cell? ⟨wr.heap.size, 3, none⟩ = some (.slice A3 x.f3.length c3) ∧ w'.cell? ⟨wr.heap.size + 1, 0, none⟩ = some (.slice A1 x.f1.length c1) ∧ w'.cell? ⟨wr.heap.size + 1, 1, none⟩ = some (.slice A2 x.f2.length c2) ∧ w'.cell? ⟨wr.heap.size + 1, 2, none⟩ = some (.slice A3 x.f3.length c3)) (ds := []) Bz0 (by kernel_rfl) rfl rfl ⟨(by exact D0.out), (by exact D1.out), (by exact D2.out), (by exact D3.out), (by exact E0.out), (by exact E1.out), (by exact E2.out)⟩ (fun hHeld => ?_)
       refine pure_ (i := 0) (N := some 22) (v := ?_) (a' := ?_) Bz1 rfl rfl (by kernel_rfl) (fun _ _ _ h => h) (Or.inl ⟨by rfl, ?_⟩) ?_ ?_; rotate_left; (focus intro w'; go_simp; with_reducible rfl); rotate_left; (focus go_simp; rfl)
       refine take_ (i := 1) (N := some 23) (v := ?_) (a' := ?_) Bz2 rfl rfl (by kernel_rfl) (fun _ _ _ h => h) (Or.inl ⟨by rfl, ?_⟩) hHeld ?_ ?_; rotate_left; (focus rintro w' ⟨s0, s1, s2, s3, s4, s5, s6⟩; go_simp; with_reducible rfl); rotate_left; (focus go_simp; rfl)
       refine one_ (i := 2) (N := some 24) Bz3 rfl rfl (by kernel_rfl) (by decide) (fun K hK => ?_)
       refine goes_ Try.func36 (by kernel_rfl) rfl #[.slice A1 x.f1.length c1] (by rfl) rfl rfl (by simp only [List.map_toArray, List.map_cons, List.map_nil]; rfl) ?_
       with_reducible refine (P1.out _ HQ0.out).mono ?_
       rintro e w' ⟨rfl, ⟨q1, rfl⟩⟩
       refine ⟨_, rfl, ?_⟩
       have HQ1 := Aside0.mk (pw_below_drewN HQ0.out q1)
       refine hK.out _ _ ⟨(by exact D0.out), (by exact D1.out), (by exact D2.out), (by exact D3.out), (by exact E0.out), (by exact E1.out), (by exact E2.out)⟩ (fun hHeld => ?_)
       clear hK K
       refine norm_ (a' := ?_) ?_ ?_
       rotate_left
       ·show Act.put _ (some 24) _ = _
        simp only [Act.put, List.setIfInBounds_toArray, List.set_cons_zero, List.set_cons_succ, i64_w, i32_w]
        rfl
       refine pure_ (i := 3) (N := some 25) (v := ?_) (a' := ?_) Bz4 rfl rfl (by kernel_rfl) (fun _ _ _ h => h) (Or.inl ⟨by rfl, ?_⟩) ?_ ?_; rotate_left; (focus intro w'; go_simp; with_reducible rfl); rotate_left; (focus go_simp; rfl)
       refine pure_ (i := 4) (N := some 26) (v := ?_) (a' := ?_) Bz5 rfl rfl (by kernel_rfl) (fun _ _ _ h => h) (Or.inl ⟨by rfl, ?_⟩) ?_ ?_; rotate_left; (focus intro w'; go_simp; with_reducible rfl); rotate_left; (focus go_simp; rfl)
       refine pure_ (i := 5) (N := some 27) (v := ?_) (a' := ?_) Bz6 rfl rfl (by kernel_rfl) (fun _ _ _ h => h) (Or.inl ⟨by rfl, ?_⟩) ?_ ?_; rotate_left; (focus intro w'; go_simp; with_reducible rfl); rotate_left; (focus go_simp; rfl)
       refine take_ (i := 6) (N := some 28) (v := ?_) (a' := ?_) Bz7 rfl rfl (by kernel_rfl) (fun _ _ _ h => h) (Or.inl ⟨by rfl, ?_⟩) hHeld ?_ ?_; rotate_left; (focus rintro w' ⟨s0, s1, s2, s3, s4, s5, s6⟩; go_simp; with_reducible rfl); rotate_left; (focus go_simp; rfl)
       refine one_ (i := 7) (N := some 29) Bz8 rfl rfl (by kernel_rfl) (by decide) (fun K hK => ?_)
       refine goes_ Try.func36 (by kernel_rfl) rfl #[.slice A2 x.f2.length c2] (by rfl) rfl rfl (by simp only [List.map_toArray, List.map_cons, List.map_nil]; rfl) ?_
       with_reducible refine (P2.out _ HQ1.out).mono ?_
       rintro e w' ⟨rfl, ⟨q2, rfl⟩⟩
       refine ⟨_, rfl, ?_⟩
       have HQ2 := Aside0.mk (pw_below_drewN HQ1.out q2)
       refine hK.out _ _ ⟨(by exact D0.out), (by exact D1.out), (by exact D2.out), (by exact D3.out), (by exact E0.out), (by exact E1.out), (by exact E2.out)⟩ (fun hHeld => ?_)
       clear hK K
       refine norm_ (a' := ?_) ?_ ?_
       rotate_left
       ·show Act.put _ (some 29) _ = _
        simp only [Act.put, List.setIfInBounds_toArray, List.set_cons_zero, List.set_cons_succ, i64_w, i32_w]
        rfl
       refine pure_ (i := 8) (N := some 30) (v := ?_) (a' := ?_) Bz9 rfl rfl (by kernel_rfl) (fun _ _ _ h => h) (Or.inl ⟨by rfl, ?_⟩) ?_ ?_; rotate_left; (focus intro w'; go_simp; with_reducible rfl); rotate_left; (focus go_simp; rfl)
       refine pure_ (i := 9) (N := some 31) (v := ?_) (a' := ?_) Bz10 rfl rfl (by kernel_rfl) (fun _ _ _ h => h) (Or.inl ⟨by rfl, ?_⟩) ?_ ?_; rotate_left; (focus intro w'; go_simp; with_reducible rfl); rotate_left; (focus go_simp; rfl)
       refine pure_ (i := 10) (N := some 32) (v := ?_) (a' := ?_) Bz11 rfl rfl (by kernel_rfl) (fun _ _ _ h => h) (Or.inl ⟨by rfl, ?_⟩) ?_ ?_; rotate_left; (focus intro w'; go_simp; with_reducible rfl); rotate_left; (focus go_simp; rfl)
       refine pure_ (i := 11) (N := some 33) (v := undef) (a' := ?_) Bz12 rfl rfl (by kernel_rfl) (fun _ _ _ h => h) (Or.inr ⟨by rfl, rfl⟩) ?_ ?_; rotate_left; (focus go_simp; rfl)
       refine pure_ (i := 12) (N := some 34) (v := undef) (a' := ?_) Bz13 rfl rfl (by kernel_rfl) (fun _ _ _ h => h) (Or.inr ⟨by rfl, rfl⟩) ?_ ?_; rotate_left; (focus go_simp; rfl)
       refine pure_ (i := 13) (N := some 35) (v := undef) (a' := ?_) Bz14 rfl rfl (by kernel_rfl) (fun _ _ _ h => h) (Or.inr ⟨by rfl, rfl⟩) ?_ ?_; rotate_left; (focus go_simp; rfl)
       refine pure_ (i := 14) (N := some 36) (v := undef) (a' := ?_) Bz15 rfl rfl (by kernel_rfl) (fun _ _ _ h => h) (Or.inr ⟨by rfl, rfl⟩) ?_ ?_; rotate_left; (focus go_simp; rfl)
       refine pure_ (i := 15) (N := some 37) (v := ?_) (a' := ?_) Bz16 rfl rfl (by kernel_rfl) (fun _ _ _ h => h) (Or.inl ⟨by rfl, ?_⟩) ?_ ?_; rotate_left; (focus intro w'; go_simp; with_reducible rfl); rotate_left; (focus go_simp; rfl)
       refine pure_ (i := 16) (N := some 38) (v := ?_) (a' := ?_) Bz17 rfl rfl (by kernel_rfl) (fun _ _ _ h => h) (Or.inl ⟨by rfl, ?_⟩) ?_ ?_; rotate_left; (focus intro w'; go_simp; with_reducible rfl); rotate_left; (focus go_simp; rfl)
       refine pure_ (i := 17) (N := some 39) (v := undef) (a' := ?_) Bz18 rfl rfl (by kernel_rfl) (fun _ _ _ h => h) (Or.inr ⟨by rfl, rfl⟩) ?_ ?_; rotate_left; (focus go_simp; rfl)
       refine pure_ (i := 18) (N := some 40) (v := undef) (a' := ?_) Bz19 rfl rfl (by kernel_rfl) (fun _ _ _ h => h) (Or.inr ⟨by rfl, rfl⟩) ?_ ?_; rotate_left; (focus go_simp; rfl)
       refine pure_ (i := 19) (N := some 41) (v := undef) (a' := ?_) Bz20 rfl rfl (by kernel_rfl) (fun _ _ _ h => h) (Or.inr ⟨by rfl, rfl⟩) ?_ ?_; rotate_left; (focus go_simp; rfl)
       refine pure_ (i := 20) (N := some 42) (v := undef) (a' := ?_) Bz21 rfl rfl (by kernel_rfl) (fun _ _ _ h => h) (Or.inr ⟨by rfl, rfl⟩) ?_ ?_; rotate_left; (focus go_simp; rfl)
       refine pure_ (i := 21) (N := some 43) (v := undef) (a' := ?_) Bz22 rfl rfl (by kernel_rfl) (fun _ _ _ h => h) (Or.inr ⟨by rfl, rfl⟩) ?_ ?_; rotate_left; (focus go_simp; rfl)
       refine pure_ (i := 22) (N := some 44) (v := ?_) (a' := ?_) Bz23 rfl rfl (by kernel_rfl) (fun _ _ _ h => h) (Or.inl ⟨by rfl, ?_⟩) ?_ ?_; rotate_left; (focus intro w'; go_simp; with_reducible rfl); rotate_left; (focus go_simp; rfl)
       refine pure_ (i := 23) (N := some 45) (v := ?_) (a' := ?_) Bz24 rfl rfl (by kernel_rfl) (fun _ _ _ h => h) (Or.inl ⟨by rfl, ?_⟩) ?_ ?_; rotate_left; (focus intro w'; go_simp; with_reducible rfl); rotate_left; (focus go_simp; rfl)
       refine pure_ (i := 24) (N := some 46) (v := undef) (a' := ?_) Bz25 rfl rfl (by kernel_rfl) (fun _ _ _ h => h) (Or.inr ⟨by rfl, rfl⟩) ?_ ?_; rotate_left; (focus go_simp; rfl)
       refine pure_ (i := 25) (N := some 47) (v := undef) (a' := ?_) Bz26 rfl rfl (by kernel_rfl) (fun _ _ _ h => h) (Or.inr ⟨by rfl, rfl⟩) ?_ ?_; rotate_left; (focus go_simp; rfl)
       refine pure_ (i := 26) (N := some 48) (v := undef) (a' := ?_) Bz27 rfl rfl (by kernel_rfl) (fun _ _ _ h => h) (Or.inr ⟨by rfl, rfl⟩) ?_ ?_; rotate_left; (focus go_simp; rfl)
       refine pure_ (i := 27) (N := some 49) (v := undef) (a' := ?_) Bz28 rfl rfl (by kernel_rfl) (fun _ _ _ h => h) (Or.inr ⟨by rfl, rfl⟩) ?_ ?_; rotate_left; (focus go_simp; rfl)
       refine pure_ (i := 28) (N := some 50) (v := undef) (a' := ?_) Bz29 rfl rfl (by kernel_rfl) (fun _ _ _ h => h) (Or.inr ⟨by rfl, rfl⟩) ?_ ?_; rotate_left; (focus go_simp; rfl)
       refine pure_ (i := 29) (N := some 51) (v := undef) (a' := ?_) Bz30 rfl rfl (by kernel_rfl) (fun _ _ _ h => h) (Or.inr ⟨by rfl, rfl⟩) ?_ ?_; rotate_left; (focus go_simp; rfl)
       refine pure_ (i := 30) (N := some 52) (v := undef) (a' := ?_) Bz31 rfl rfl (by kernel_rfl) (fun _ _ _ h => h) (Or.inr ⟨by rfl, rfl⟩) ?_ ?_; rotate_left; (focus go_simp; rfl)
       refine pure_ (i := 31) (N := some 53) (v := undef) (a' := ?_) Bz32 rfl rfl (by kernel_rfl) (fun _ _ _ h => h) (Or.inr ⟨by rfl, rfl⟩) ?_ ?_; rotate_left; (focus go_simp; rfl)
       refine pure_ (i := 32) (N := some 54) (v := undef) (a' := ?_) Bz33 rfl rfl (by kernel_rfl) (fun _ _ _ h => h) (Or.inr ⟨by rfl, rfl⟩) ?_ ?_; rotate_left; (focus go_simp; rfl)
       refine pure_ (i := 33) (N := some 55) (v := undef) (a' := ?_) Bz34 rfl rfl (by kernel_rfl) (fun _ _ _ h => h) (Or.inr ⟨by rfl, rfl⟩) ?_ ?_; rotate_left; (focus go_simp; rfl)
       refine pure_ (i := 34) (N := some 56) (v := undef) (a' := ?_) Bz35 rfl rfl (by kernel_rfl) (fun _ _ _ h => h) (Or.inr ⟨by rfl, rfl⟩) ?_ ?_; rotate_left; (focus go_simp; rfl)
       refine pure_ (i := 35) (N := some 57) (v := undef) (a' := ?_) Bz36 rfl rfl (by kernel_rfl) (fun _ _ _ h => h) (Or.inr ⟨by rfl, rfl⟩) ?_ ?_; rotate_left; (focus go_simp; rfl)
       refine pure_ (i := 36) (N := some 58) (v := ?_) (a' := ?_) Bz37 rfl rfl (by kernel_rfl) (fun _ _ _ h => h) (Or.inl ⟨by rfl, ?_⟩) ?_ ?_; rotate_left; (focus intro w'; go_simp; with_reducible rfl); rotate_left; (focus go_simp; rfl)
       refine done_ (by kernel_rfl) ?_
       go_wp2_with fail
       go_meet
       exact ⟨congrArg Value.bool HV.out.symm, ⟨Below.trans HWB.out (Below.mono HQ2.out HWS.out)⟩⟩
      | true =>
       have l2 := mplain_len b2
       rw [b2] at P2'
       have P2 := Aside0.mk P2'
       cases b3 : mplainB x.f3 with
       | false =>
        rw [b3] at P3'
        have P3 := Aside0.mk P3'
        have HV := Aside0.mk (show mbad x = true by unfold mbad; rw [b1, b2, b3]; rfl)
        clear P1' P2' P3' PK' b1 b2 b3
        refine start_ (n := 37) (S := fun w' => w'.cell? ⟨wr.heap.size, 0, none⟩ = some (.int .u8 x.f0) ∧ w'.cell? ⟨wr.heap.size, 1, none⟩ = some (.slice A1 x.f1.length c1) ∧ w'.cell? ⟨wr.heap.size, 2, none⟩ = some (.slice A2 x.f2.length c2) ∧ w'.cell? ⟨wr.heap.size, 3, none⟩ = some (.slice A3 x.f3.length c3) ∧ w'.cell? ⟨wr.heap.size + 1, 0, none⟩ = some (.slice A1 x.f1.length c1) ∧ w'.cell? ⟨wr.heap.size + 1, 1, none⟩ = some (.slice A2 x.f2.length c2) ∧ w'.cell? ⟨wr.heap.size + 1, 2, none⟩ = some (.slice A3 x.f3.length c3)) (ds := []) Bz0 (by kernel_rfl) rfl rfl ⟨(by exact D0.out), (by exact D1.out), (by exact D2.out), (by exact D3.out), (by exact E0.out), (by exact E1.out), (by exact E2.out)⟩ (fun hHeld => ?_)
        refine pure_ (i := 0) (N := some 22) (v := ?_) (a' := ?_) Bz1 rfl rfl (by kernel_rfl) (fun _ _ _ h => h) (Or.inl ⟨by rfl, ?_⟩) ?_ ?_; rotate_left; (focus intro w'; go_simp; with_reducible rfl); rotate_left; (focus go_simp; rfl)
        refine take_ (i := 1) (N := some 23) (v := ?_) (a' := ?_) Bz2 rfl rfl (by kernel_rfl) (fun _ _ _ h => h) (Or.inl ⟨by rfl, ?_⟩) hHeld ?_ ?_; rotate_left; (focus rintro w' ⟨s0, s1, s2, s3, s4, s5, s6⟩; go_simp; with_reducible rfl); rotate_left; (focus go_simp; rfl)
        refine one_ (i := 2) (N := some 24) Bz3 rfl rfl (by kernel_rfl) (by decide) (fun K hK => ?_)
        refine goes_ Try.func36 (by kernel_rfl) rfl #[.slice A1 x.f1.length c1] (by rfl) rfl rfl (by simp only [List.map_toArray, List.map_cons, List.map_nil]; rfl) ?_
        with_reducible refine (P1.out _ HQ0.out).mono ?_
        rintro e w' ⟨rfl, ⟨q1, rfl⟩⟩
        refine ⟨_, rfl, ?_⟩
        have HQ1 := Aside0.mk (pw_below_drewN HQ0.out q1)
        refine hK.out _ _ ⟨(by exact D0.out), (by exact D1.out), (by exact D2.out), (by exact D3.out), (by exact E0.out), (by exact E1.out), (by exact E2.out)⟩ (fun hHeld => ?_)
        clear hK K
        refine norm_ (a' := ?_) ?_ ?_
        rotate_left
        ·show Act.put _ (some 24) _ = _
         simp only [Act.put, List.setIfInBounds_toArray, List.set_cons_zero, List.set_cons_succ, i64_w, i32_w]
         rfl
        refine pure_ (i := 3) (N := some 25) (v := ?_) (a' := ?_) Bz4 rfl rfl (by kernel_rfl) (fun _ _ _ h => h) (Or.inl ⟨by rfl, ?_⟩) ?_ ?_; rotate_left; (focus intro w'; go_simp; with_reducible rfl); rotate_left; (focus go_simp; rfl)
        refine pure_ (i := 4) (N := some 26) (v := ?_) (a' := ?_) Bz5 rfl rfl (by kernel_rfl) (fun _ _ _ h => h) (Or.inl ⟨by rfl, ?_⟩) ?_ ?_; rotate_left; (focus intro w'; go_simp; with_reducible rfl); rotate_left; (focus go_simp; rfl)
        refine pure_ (i := 5) (N := some 27) (v := ?_) (a' := ?_) Bz6 rfl rfl (by kernel_rfl) (fun _ _ _ h => h) (Or.inl ⟨by rfl, ?_⟩) ?_ ?_; rotate_left; (focus intro w'; go_simp; with_reducible rfl); rotate_left; (focus go_simp; rfl)
        refine take_ (i := 6) (N := some 28) (v := ?_) (a' := ?_) Bz7 rfl rfl (by kernel_rfl) (fun _ _ _ h => h) (Or.inl ⟨by rfl, ?_⟩) hHeld ?_ ?_; rotate_left; (focus rintro w' ⟨s0, s1, s2, s3, s4, s5, s6⟩; go_simp; with_reducible rfl); rotate_left; (focus go_simp; rfl)
        refine one_ (i := 7) (N := some 29) Bz8 rfl rfl (by kernel_rfl) (by decide) (fun K hK => ?_)
        refine goes_ Try.func36 (by kernel_rfl) rfl #[.slice A2 x.f2.length c2] (by rfl) rfl rfl (by simp only [List.map_toArray, List.map_cons, List.map_nil]; rfl) ?_
        with_reducible refine (P2.out _ HQ1.out).mono ?_
        rintro e w' ⟨rfl, ⟨q2, rfl⟩⟩
        refine ⟨_, rfl, ?_⟩
        have HQ2 := Aside0.mk (pw_below_drewN HQ1.out q2)
        refine hK.out _ _ ⟨(by exact D0.out), (by exact D1.out), (by exact D2.out), (by exact D3.out), (by exact E0.out), (by exact E1.out), (by exact E2.out)⟩ (fun hHeld => ?_)
        clear hK K
        refine norm_ (a' := ?_) ?_ ?_
        rotate_left
        ·show Act.put _ (some 29) _ = _
         simp only [Act.put, List.setIfInBounds_toArray, List.set_cons_zero, List.set_cons_succ, i64_w, i32_w]
         rfl
        refine pure_ (i := 8) (N := some 30) (v := ?_) (a' := ?_) Bz9 rfl rfl (by kernel_rfl) (fun _ _ _ h => h) (Or.inl ⟨by rfl, ?_⟩) ?_ ?_; rotate_left; (focus intro w'; go_simp; with_reducible rfl); rotate_left; (focus go_simp; rfl)
        refine pure_ (i := 9) (N := some 31) (v := ?_) (a' := ?_) Bz10 rfl rfl (by kernel_rfl) (fun _ _ _ h => h) (Or.inl ⟨by rfl, ?_⟩) ?_ ?_; rotate_left; (focus intro w'; go_simp; with_reducible rfl); rotate_left; (focus go_simp; rfl)
        refine pure_ (i := 10) (N := some 32) (v := ?_) (a' := ?_) Bz11 rfl rfl (by kernel_rfl) (fun _ _ _ h => h) (Or.inl ⟨by rfl, ?_⟩) ?_ ?_; rotate_left; (focus intro w'; go_simp; with_reducible rfl); rotate_left; (focus go_simp; rfl)
        refine pure_ (i := 11) (N := some 33) (v := ?_) (a' := ?_) Bz12 rfl rfl (by kernel_rfl) (fun _ _ _ h => h) (Or.inl ⟨by rfl, ?_⟩) ?_ ?_; rotate_left; (focus intro w'; go_simp; with_reducible rfl); rotate_left; (focus go_simp; rfl)
        refine take_ (i := 12) (N := some 34) (v := ?_) (a' := ?_) Bz13 rfl rfl (by kernel_rfl) (fun _ _ _ h => h) (Or.inl ⟨by rfl, ?_⟩) hHeld ?_ ?_; rotate_left; (focus rintro w' ⟨s0, s1, s2, s3, s4, s5, s6⟩; go_simp; with_reducible rfl); rotate_left; (focus go_simp; rfl)
        refine one_ (i := 13) (N := some 35) Bz14 rfl rfl (by kernel_rfl) (by decide) (fun K hK => ?_)
        refine goes_ Try.func36 (by kernel_rfl) rfl #[.slice A3 x.f3.length c3] (by rfl) rfl rfl (by simp only [List.map_toArray, List.map_cons, List.map_nil]; rfl) ?_
        with_reducible refine (P3.out _ HQ2.out).mono ?_
        rintro e w' ⟨rfl, ⟨q3, rfl⟩⟩
        refine ⟨_, rfl, ?_⟩
        have HQ3 := Aside0.mk (pw_below_drewN HQ2.out q3)
        refine hK.out _ _ ⟨(by exact D0.out), (by exact D1.out), (by exact D2.out), (by exact D3.out), (by exact E0.out), (by exact E1.out), (by exact E2.out)⟩ (fun hHeld => ?_)
        clear hK K
        refine norm_ (a' := ?_) ?_ ?_
        rotate_left
        ·show Act.put _ (some 35) _ = _
         simp only [Act.put, List.setIfInBounds_toArray, List.set_cons_zero, List.set_cons_succ, i64_w, i32_w]
         rfl
        refine pure_ (i := 14) (N := some 36) (v := ?_) (a' := ?_) Bz15 rfl rfl (by kernel_rfl) (fun _ _ _ h => h) (Or.inl ⟨by rfl, ?_⟩) ?_ ?_; rotate_left; (focus intro w'; go_simp; with_reducible rfl); rotate_left; (focus go_simp; rfl)
        refine pure_ (i := 15) (N := some 37) (v := ?_) (a' := ?_) Bz16 rfl rfl (by kernel_rfl) (fun _ _ _ h => h) (Or.inl ⟨by rfl, ?_⟩) ?_ ?_; rotate_left; (focus intro w'; go_simp; with_reducible rfl); rotate_left; (focus go_simp; rfl)
        refine pure_ (i := 16) (N := some 38) (v := ?_) (a' := ?_) Bz17 rfl rfl (by kernel_rfl) (fun _ _ _ h => h) (Or.inl ⟨by rfl, ?_⟩) ?_ ?_; rotate_left; (focus intro w'; go_simp; with_reducible rfl); rotate_left; (focus go_simp; rfl)
        refine pure_ (i := 17) (N := some 39) (v := undef) (a' := ?_) Bz18 rfl rfl (by kernel_rfl) (fun _ _ _ h => h) (Or.inr ⟨by rfl, rfl⟩) ?_ ?_; rotate_left; (focus go_simp; rfl)
        refine pure_ (i := 18) (N := some 40) (v := undef) (a' := ?_) Bz19 rfl rfl (by kernel_rfl) (fun _ _ _ h => h) (Or.inr ⟨by rfl, rfl⟩) ?_ ?_; rotate_left; (focus go_simp; rfl)
        refine pure_ (i := 19) (N := some 41) (v := undef) (a' := ?_) Bz20 rfl rfl (by kernel_rfl) (fun _ _ _ h => h) (Or.inr ⟨by rfl, rfl⟩) ?_ ?_; rotate_left; (focus go_simp; rfl)
        refine pure_ (i := 20) (N := some 42) (v := undef) (a' := ?_) Bz21 rfl rfl (by kernel_rfl) (fun _ _ _ h => h) (Or.inr ⟨by rfl, rfl⟩) ?_ ?_; rotate_left; (focus go_simp; rfl)
        refine pure_ (i := 21) (N := some 43) (v := undef) (a' := ?_) Bz22 rfl rfl (by kernel_rfl) (fun _ _ _ h => h) (Or.inr ⟨by rfl, rfl⟩) ?_ ?_; rotate_left; (focus go_simp; rfl)
        refine pure_ (i := 22) (N := some 44) (v := ?_) (a' := ?_) Bz23 rfl rfl (by kernel_rfl) (fun _ _ _ h => h) (Or.inl ⟨by rfl, ?_⟩) ?_ ?_; rotate_left; (focus intro w'; go_simp; with_reducible rfl); rotate_left; (focus go_simp; rfl)
        refine pure_ (i := 23) (N := some 45) (v := ?_) (a' := ?_) Bz24 rfl rfl (by kernel_rfl) (fun _ _ _ h => h) (Or.inl ⟨by rfl, ?_⟩) ?_ ?_; rotate_left; (focus intro w'; go_simp; with_reducible rfl); rotate_left; (focus go_simp; rfl)
        refine pure_ (i := 24) (N := some 46) (v := undef) (a' := ?_) Bz25 rfl rfl (by kernel_rfl) (fun _ _ _ h => h) (Or.inr ⟨by rfl, rfl⟩) ?_ ?_; rotate_left; (focus go_simp; rfl)
        refine pure_ (i := 25) (N := some 47) (v := undef) (a' := ?_) Bz26 rfl rfl (by kernel_rfl) (fun _ _ _ h => h) (Or.inr ⟨by rfl, rfl⟩) ?_ ?_; rotate_left; (focus go_simp; rfl)
        refine pure_ (i := 26) (N := some 48) (v := undef) (a' := ?_) Bz27 rfl rfl (by kernel_rfl) (fun _ _ _ h => h) (Or.inr ⟨by rfl, rfl⟩) ?_ ?_; rotate_left; (focus go_simp; rfl)
        refine pure_ (i := 27) (N := some 49) (v := undef) (a' := ?_) Bz28 rfl rfl (by kernel_rfl) (fun _ _ _ h => h) (Or.inr ⟨by rfl, rfl⟩) ?_ ?_; rotate_left; (focus go_simp; rfl)
        refine pure_ (i := 28) (N := some 50) (v := undef) (a' := ?_) Bz29 rfl rfl (by kernel_rfl) (fun _ _ _ h => h) (Or.inr ⟨by rfl, rfl⟩) ?_ ?_; rotate_left; (focus go_simp; rfl)
        refine pure_ (i := 29) (N := some 51) (v := undef) (a' := ?_) Bz30 rfl rfl (by kernel_rfl) (fun _ _ _ h => h) (Or.inr ⟨by rfl, rfl⟩) ?_ ?_; rotate_left; (focus go_simp; rfl)
        refine pure_ (i := 30) (N := some 52) (v := undef) (a' := ?_) Bz31 rfl rfl (by kernel_rfl) (fun _ _ _ h => h) (Or.inr ⟨by rfl, rfl⟩) ?_ ?_; rotate_left; (focus go_simp; rfl)
        refine pure_ (i := 31) (N := some 53) (v := undef) (a' := ?_) Bz32 rfl rfl (by kernel_rfl) (fun _ _ _ h => h) (Or.inr ⟨by rfl, rfl⟩) ?_ ?_; rotate_left; (focus go_simp; rfl)
        refine pure_ (i := 32) (N := some 54) (v := undef) (a' := ?_) Bz33 rfl rfl (by kernel_rfl) (fun _ _ _ h => h) (Or.inr ⟨by rfl, rfl⟩) ?_ ?_; rotate_left; (focus go_simp; rfl)
        refine pure_ (i := 33) (N := some 55) (v := undef) (a' := ?_) Bz34 rfl rfl (by kernel_rfl) (fun _ _ _ h => h) (Or.inr ⟨by rfl, rfl⟩) ?_ ?_; rotate_left; (focus go_simp; rfl)
        refine pure_ (i := 34) (N := some 56) (v := undef) (a' := ?_) Bz35 rfl rfl (by kernel_rfl) (fun _ _ _ h => h) (Or.inr ⟨by rfl, rfl⟩) ?_ ?_; rotate_left; (focus go_simp; rfl)
        refine pure_ (i := 35) (N := some 57) (v := undef) (a' := ?_) Bz36 rfl rfl (by kernel_rfl) (fun _ _ _ h => h) (Or.inr ⟨by rfl, rfl⟩) ?_ ?_; rotate_left; (focus go_simp; rfl)
        refine pure_ (i := 36) (N := some 58) (v := ?_) (a' := ?_) Bz37 rfl rfl (by kernel_rfl) (fun _ _ _ h => h) (Or.inl ⟨by rfl, ?_⟩) ?_ ?_; rotate_left; (focus intro w'; go_simp; with_reducible rfl); rotate_left; (focus go_simp; rfl)
        refine done_ (by kernel_rfl) ?_
        go_wp2_with fail
        go_meet
        exact ⟨congrArg Value.bool HV.out.symm, ⟨Below.trans HWB.out (Below.mono HQ3.out HWS.out)⟩⟩
       | true =>
        have l3 := mplain_len b3
        rw [b3] at P3'
        have P3 := Aside0.mk P3'
        have PK := Aside0.mk (fun X hX => PK'.out X hX (by omega) (by omega) (by omega))
        have HV := Aside0.mk (show mbad x = (decide (x.f0 ≠ kindB x.f1 x.f2 x.f3) || decide (x.f1.length + x.f2.length + x.f3.length = 0)) by unfold mbad; rw [b1, b2, b3]; rfl)
        clear P1' P2' P3' PK' b1 b2 b3
        obtain ⟨kv, hkv⟩ : ∃ kv, kv = kindB x.f1 x.f2 x.f3 := ⟨_, rfl⟩
        rw [← hkv] at PK HV
        clear hkv
        by_cases z1 : x.f0 = kv
        ·have z1b : (x.f0 == kv) = true := by simpa using z1
         have z1c : (x.f0 != kv) = false := by simpa using z1
         have Z1 := Aside0.mk (show decide (x.f0 ≠ kv) = false from decide_eq_false (by simpa using z1))
         clear z1
         have j0 : IntKind.i64.wrap ((x.f1.length : Int) + (x.f2.length : Int)) = (x.f1.length : Int) + (x.f2.length : Int) := IntWalk.i64_in _ (by omega)
         have j1 : IntKind.i64.wrap ((x.f1.length : Int) + (x.f2.length : Int) + (x.f3.length : Int)) = (x.f1.length : Int) + (x.f2.length : Int) + (x.f3.length : Int) := IntWalk.i64_in _ (by omega)
         refine start_ (n := 37) (S := fun w' => w'.cell? ⟨wr.heap.size, 0, none⟩ = some (.int .u8 x.f0) ∧ w'.cell? ⟨wr.heap.size, 1, none⟩ = some (.slice A1 x.f1.length c1) ∧ w'.cell? ⟨wr.heap.size, 2, none⟩ = some (.slice A2 x.f2.length c2) ∧ w'.cell? ⟨wr.heap.size, 3, none⟩ = some (.slice A3 x.f3.length c3) ∧ w'.cell? ⟨wr.heap.size + 1, 0, none⟩ = some (.slice A1 x.f1.length c1) ∧ w'.cell? ⟨wr.heap.size + 1, 1, none⟩ = some (.slice A2 x.f2.length c2) ∧ w'.cell? ⟨wr.heap.size + 1, 2, none⟩ = some (.slice A3 x.f3.length c3)) (ds := []) Bz0 (by kernel_rfl) rfl rfl ⟨(by exact D0.out), (by exact D1.out), (by exact D2.out), (by exact D3.out), (by exact E0.out), (by exact E1.out), (by exact E2.out)⟩ (fun hHeld => ?_)
         refine pure_ (i := 0) (N := some 22) (v := ?_) (a' := ?_) Bz1 rfl rfl (by kernel_rfl) (fun _ _ _ h => h) (Or.inl ⟨by rfl, ?_⟩) ?_ ?_; rotate_left; (focus intro w'; go_simp; with_reducible rfl); rotate_left; (focus go_simp; rfl)
         refine take_ (i := 1) (N := some 23) (v := ?_) (a' := ?_) Bz2 rfl rfl (by kernel_rfl) (fun _ _ _ h => h) (Or.inl ⟨by rfl, ?_⟩) hHeld ?_ ?_; rotate_left; (focus rintro w' ⟨s0, s1, s2, s3, s4, s5, s6⟩; go_simp; with_reducible rfl); rotate_left; (focus go_simp; rfl)
         refine one_ (i := 2) (N := some 24) Bz3 rfl rfl (by kernel_rfl) (by decide) (fun K hK => ?_)
         refine goes_ Try.func36 (by kernel_rfl) rfl #[.slice A1 x.f1.length c1] (by rfl) rfl rfl (by simp only [List.map_toArray, List.map_cons, List.map_nil]; rfl) ?_
         with_reducible refine (P1.out _ HQ0.out).mono ?_
         rintro e w' ⟨rfl, ⟨q1, rfl⟩⟩
         refine ⟨_, rfl, ?_⟩
         have HQ1 := Aside0.mk (pw_below_drewN HQ0.out q1)
         refine hK.out _ _ ⟨(by exact D0.out), (by exact D1.out), (by exact D2.out), (by exact D3.out), (by exact E0.out), (by exact E1.out), (by exact E2.out)⟩ (fun hHeld => ?_)
         clear hK K
         refine norm_ (a' := ?_) ?_ ?_
         rotate_left
         ·show Act.put _ (some 24) _ = _
          simp only [Act.put, List.setIfInBounds_toArray, List.set_cons_zero, List.set_cons_succ, i64_w, i32_w]
          rfl
         refine pure_ (i := 3) (N := some 25) (v := ?_) (a' := ?_) Bz4 rfl rfl (by kernel_rfl) (fun _ _ _ h => h) (Or.inl ⟨by rfl, ?_⟩) ?_ ?_; rotate_left; (focus intro w'; go_simp; with_reducible rfl); rotate_left; (focus go_simp; rfl)
         refine pure_ (i := 4) (N := some 26) (v := ?_) (a' := ?_) Bz5 rfl rfl (by kernel_rfl) (fun _ _ _ h => h) (Or.inl ⟨by rfl, ?_⟩) ?_ ?_; rotate_left; (focus intro w'; go_simp; with_reducible rfl); rotate_left; (focus go_simp; rfl)
         refine pure_ (i := 5) (N := some 27) (v := ?_) (a' := ?_) Bz6 rfl rfl (by kernel_rfl) (fun _ _ _ h => h) (Or.inl ⟨by rfl, ?_⟩) ?_ ?_; rotate_left; (focus intro w'; go_simp; with_reducible rfl); rotate_left; (focus go_simp; rfl)
         refine take_ (i := 6) (N := some 28) (v := ?_) (a' := ?_) Bz7 rfl rfl (by kernel_rfl) (fun _ _ _ h => h) (Or.inl ⟨by rfl, ?_⟩) hHeld ?_ ?_; rotate_left; (focus rintro w' ⟨s0, s1, s2, s3, s4, s5, s6⟩; go_simp; with_reducible rfl); rotate_left; (focus go_simp; rfl)
         refine one_ (i := 7) (N := some 29) Bz8 rfl rfl (by kernel_rfl) (by decide) (fun K hK => ?_)
         refine goes_ Try.func36 (by kernel_rfl) rfl #[.slice A2 x.f2.length c2] (by rfl) rfl rfl (by simp only [List.map_toArray, List.map_cons, List.map_nil]; rfl) ?_
         with_reducible refine (P2.out _ HQ1.out).mono ?_
         rintro e w' ⟨rfl, ⟨q2, rfl⟩⟩
         refine ⟨_, rfl, ?_⟩
         have HQ2 := Aside0.mk (pw_below_drewN HQ1.out q2)
         refine hK.out _ _ ⟨(by exact D0.out), (by exact D1.out), (by exact D2.out), (by exact D3.out), (by exact E0.out), (by exact E1.out), (by exact E2.out)⟩ (fun hHeld => ?_)
         clear hK K
         refine norm_ (a' := ?_) ?_ ?_
         rotate_left
         ·show Act.put _ (some 29) _ = _
          simp only [Act.put, List.setIfInBounds_toArray, List.set_cons_zero, List.set_cons_succ, i64_w, i32_w]
          rfl
         refine pure_ (i := 8) (N := some 30) (v := ?_) (a' := ?_) Bz9 rfl rfl (by kernel_rfl) (fun _ _ _ h => h) (Or.inl ⟨by rfl, ?_⟩) ?_ ?_; rotate_left; (focus intro w'; go_simp; with_reducible rfl); rotate_left; (focus go_simp; rfl)
         refine pure_ (i := 9) (N := some 31) (v := ?_) (a' := ?_) Bz10 rfl rfl (by kernel_rfl) (fun _ _ _ h => h) (Or.inl ⟨by rfl, ?_⟩) ?_ ?_; rotate_left; (focus intro w'; go_simp; with_reducible rfl); rotate_left; (focus go_simp; rfl)
         refine pure_ (i := 10) (N := some 32) (v := ?_) (a' := ?_) Bz11 rfl rfl (by kernel_rfl) (fun _ _ _ h => h) (Or.inl ⟨by rfl, ?_⟩) ?_ ?_; rotate_left; (focus intro w'; go_simp; with_reducible rfl); rotate_left; (focus go_simp; rfl)
         refine pure_ (i := 11) (N := some 33) (v := ?_) (a' := ?_) Bz12 rfl rfl (by kernel_rfl) (fun _ _ _ h => h) (Or.inl ⟨by rfl, ?_⟩) ?_ ?_; rotate_left; (focus intro w'; go_simp; with_reducible rfl); rotate_left; (focus go_simp; rfl)
         refine take_ (i := 12) (N := some 34) (v := ?_) (a' := ?_) Bz13 rfl rfl (by kernel_rfl) (fun _ _ _ h => h) (Or.inl ⟨by rfl, ?_⟩) hHeld ?_ ?_; rotate_left; (focus rintro w' ⟨s0, s1, s2, s3, s4, s5, s6⟩; go_simp; with_reducible rfl); rotate_left; (focus go_simp; rfl)
         refine one_ (i := 13) (N := some 35) Bz14 rfl rfl (by kernel_rfl) (by decide) (fun K hK => ?_)
         refine goes_ Try.func36 (by kernel_rfl) rfl #[.slice A3 x.f3.length c3] (by rfl) rfl rfl (by simp only [List.map_toArray, List.map_cons, List.map_nil]; rfl) ?_
         with_reducible refine (P3.out _ HQ2.out).mono ?_
         rintro e w' ⟨rfl, ⟨q3, rfl⟩⟩
         refine ⟨_, rfl, ?_⟩
         have HQ3 := Aside0.mk (pw_below_drewN HQ2.out q3)
         refine hK.out _ _ ⟨(by exact D0.out), (by exact D1.out), (by exact D2.out), (by exact D3.out), (by exact E0.out), (by exact E1.out), (by exact E2.out)⟩ (fun hHeld => ?_)
         clear hK K
         refine norm_ (a' := ?_) ?_ ?_
         rotate_left
         ·show Act.put _ (some 35) _ = _
          simp only [Act.put, List.setIfInBounds_toArray, List.set_cons_zero, List.set_cons_succ, i64_w, i32_w]
          rfl
         refine pure_ (i := 14) (N := some 36) (v := ?_) (a' := ?_) Bz15 rfl rfl (by kernel_rfl) (fun _ _ _ h => h) (Or.inl ⟨by rfl, ?_⟩) ?_ ?_; rotate_left; (focus intro w'; go_simp; with_reducible rfl); rotate_left; (focus go_simp; rfl)
         refine pure_ (i := 15) (N := some 37) (v := ?_) (a' := ?_) Bz16 rfl rfl (by kernel_rfl) (fun _ _ _ h => h) (Or.inl ⟨by rfl, ?_⟩) ?_ ?_; rotate_left; (focus intro w'; go_simp; with_reducible rfl); rotate_left; (focus go_simp; rfl)
         refine pure_ (i := 16) (N := some 38) (v := ?_) (a' := ?_) Bz17 rfl rfl (by kernel_rfl) (fun _ _ _ h => h) (Or.inl ⟨by rfl, ?_⟩) ?_ ?_; rotate_left; (focus intro w'; go_simp; with_reducible rfl); rotate_left; (focus go_simp; rfl)
         refine pure_ (i := 17) (N := some 39) (v := ?_) (a' := ?_) Bz18 rfl rfl (by kernel_rfl) (fun _ _ _ h => h) (Or.inl ⟨by rfl, ?_⟩) ?_ ?_; rotate_left; (focus intro w'; go_simp; with_reducible rfl); rotate_left; (focus go_simp; rfl)
         refine take_ (i := 18) (N := some 40) (v := ?_) (a' := ?_) Bz19 rfl rfl (by kernel_rfl) (fun _ _ _ h => h) (Or.inl ⟨by rfl, ?_⟩) hHeld ?_ ?_; rotate_left; (focus rintro w' ⟨s0, s1, s2, s3, s4, s5, s6⟩; go_simp; with_reducible rfl); rotate_left; (focus go_simp; rfl)
         refine take_ (i := 19) (N := some 41) (v := ?_) (a' := ?_) Bz20 rfl rfl (by kernel_rfl) (fun _ _ _ h => h) (Or.inl ⟨by rfl, ?_⟩) hHeld ?_ ?_; rotate_left; (focus rintro w' ⟨s0, s1, s2, s3, s4, s5, s6⟩; go_simp; with_reducible rfl); rotate_left; (focus go_simp; rfl)
         refine one_ (i := 20) (N := some 42) Bz21 rfl rfl (by kernel_rfl) (by decide) (fun K hK => ?_)
         refine goes_ Try.func37 (by kernel_rfl) rfl #[.agg #[.slice A1 x.f1.length c1, .slice A2 x.f2.length c2, .slice A3 x.f3.length c3]] (by rfl) rfl rfl (by simp only [List.map_toArray, List.map_cons, List.map_nil]; rfl) ?_
         with_reducible refine (PK.out _ HQ3.out).mono ?_
         rintro e w3 ⟨rfl, hk⟩
         refine ⟨_, rfl, ?_⟩
         have HK := Aside0.mk hk
         clear hk
         refine hK.out _ _ ⟨(pc_keep HK.out (by exact L0.out) D0.out), (pc_keep HK.out (by exact L0.out) D1.out), (pc_keep HK.out (by exact L0.out) D2.out), (pc_keep HK.out (by exact L0.out) D3.out), (pc_keep HK.out (by exact L1.out) E0.out), (pc_keep HK.out (by exact L1.out) E1.out), (pc_keep HK.out (by exact L1.out) E2.out)⟩ (fun hHeld => ?_)
         clear hK K
         refine norm_ (a' := ?_) ?_ ?_
         rotate_left
         ·show Act.put _ (some 42) _ = _
          simp only [Act.put, List.setIfInBounds_toArray, List.set_cons_zero, List.set_cons_succ, i64_w, i32_w]
          rfl
         refine pure_ (i := 21) (N := some 43) (v := ?_) (a' := ?_) Bz22 rfl rfl (by kernel_rfl) (fun _ _ _ h => h) (Or.inl ⟨by rfl, ?_⟩) ?_ ?_; rotate_left; (focus intro w'; go_simp; with_reducible rfl); rotate_left; (focus go_simp; rfl)
         refine pure_ (i := 22) (N := some 44) (v := ?_) (a' := ?_) Bz23 rfl rfl (by kernel_rfl) (fun _ _ _ h => h) (Or.inl ⟨by rfl, ?_⟩) ?_ ?_; rotate_left; (focus intro w'; go_simp; with_reducible rfl); rotate_left; (focus go_simp; rfl)
         refine pure_ (i := 23) (N := some 45) (v := ?_) (a' := ?_) Bz24 rfl rfl (by kernel_rfl) (fun _ _ _ h => h) (Or.inl ⟨by rfl, ?_⟩) ?_ ?_; rotate_left; (focus intro w'; go_simp; with_reducible rfl); rotate_left; (focus go_simp; rfl)
         refine pure_ (i := 24) (N := some 46) (v := ?_) (a' := ?_) Bz25 rfl rfl (by kernel_rfl) (fun _ _ _ h => h) (Or.inl ⟨by rfl, ?_⟩) ?_ ?_; rotate_left; (focus intro w'; go_simp; with_reducible rfl); rotate_left; (focus go_simp; rfl)
         refine pure_ (i := 27) (N := some 49) (v := ?_) (a' := ?_) #[true, true, true, true, true, true, true, true, true, true, true, true, true, true, true, true, true, true, true, true, true, true, true, true, true, false, false, true, false, false, false, false, false, false, false, false, false] rfl rfl (by kernel_rfl) (fun _ _ _ h => h) (Or.inl ⟨by rfl, ?_⟩) ?_ ?_; rotate_left; (focus intro w'; go_simp; with_reducible rfl); rotate_left; (focus go_simp; rfl)
         refine pure_ (i := 31) (N := some 53) (v := ?_) (a' := ?_) #[true, true, true, true, true, true, true, true, true, true, true, true, true, true, true, true, true, true, true, true, true, true, true, true, true, false, false, true, false, false, false, true, false, false, false, false, false] rfl rfl (by kernel_rfl) (fun _ _ _ h => h) (Or.inl ⟨by rfl, ?_⟩) ?_ ?_; rotate_left; (focus intro w'; go_simp; with_reducible rfl); rotate_left; (focus go_simp; rfl)
         refine take_ (i := 25) (N := some 47) (v := ?_) (a' := ?_) #[true, true, true, true, true, true, true, true, true, true, true, true, true, true, true, true, true, true, true, true, true, true, true, true, true, true, false, true, false, false, false, true, false, false, false, false, false] rfl rfl (by kernel_rfl) (fun _ _ _ h => h) (Or.inl ⟨by rfl, ?_⟩) hHeld ?_ ?_; rotate_left; (focus rintro w' ⟨s0, s1, s2, s3, s4, s5, s6⟩; go_simp; with_reducible rfl); rotate_left; (focus go_simp; rfl)
         refine pure_ (i := 26) (N := some 48) (v := ?_) (a' := ?_) #[true, true, true, true, true, true, true, true, true, true, true, true, true, true, true, true, true, true, true, true, true, true, true, true, true, true, true, true, false, false, false, true, false, false, false, false, false] rfl rfl (by kernel_rfl) (fun _ _ _ h => h) (Or.inl ⟨by rfl, ?_⟩) ?_ ?_; rotate_left; (focus intro w'; go_simp; with_reducible rfl); rotate_left; (focus go_simp; rfl)
         refine take_ (i := 28) (N := some 50) (v := ?_) (a' := ?_) #[true, true, true, true, true, true, true, true, true, true, true, true, true, true, true, true, true, true, true, true, true, true, true, true, true, true, true, true, true, false, false, true, false, false, false, false, false] rfl rfl (by kernel_rfl) (fun _ _ _ h => h) (Or.inl ⟨by rfl, ?_⟩) hHeld ?_ ?_; rotate_left; (focus rintro w' ⟨s0, s1, s2, s3, s4, s5, s6⟩; go_simp; with_reducible rfl); rotate_left; (focus go_simp; rfl)
         refine pure_ (i := 29) (N := some 51) (v := ?_) (a' := ?_) #[true, true, true, true, true, true, true, true, true, true, true, true, true, true, true, true, true, true, true, true, true, true, true, true, true, true, true, true, true, true, false, true, false, false, false, false, false] rfl rfl (by kernel_rfl) (fun _ _ _ h => h) (Or.inl ⟨by rfl, ?_⟩) ?_ ?_; rotate_left; (focus intro w'; go_simp; with_reducible rfl); rotate_left; (focus go_simp; rfl)
         refine pure_ (i := 30) (N := some 52) (v := ?_) (a' := ?_) Bz32 rfl rfl (by kernel_rfl) (fun _ _ _ h => h) (Or.inl ⟨by rfl, ?_⟩) ?_ ?_; rotate_left; (focus intro w'; go_simp; with_reducible rfl); rotate_left; (focus go_simp; rfl)
         refine take_ (i := 32) (N := some 54) (v := ?_) (a' := ?_) Bz33 rfl rfl (by kernel_rfl) (fun _ _ _ h => h) (Or.inl ⟨by rfl, ?_⟩) hHeld ?_ ?_; rotate_left; (focus rintro w' ⟨s0, s1, s2, s3, s4, s5, s6⟩; go_simp; with_reducible rfl); rotate_left; (focus go_simp; rfl)
         refine pure_ (i := 33) (N := some 55) (v := ?_) (a' := ?_) Bz34 rfl rfl (by kernel_rfl) (fun _ _ _ h => h) (Or.inl ⟨by rfl, ?_⟩) ?_ ?_; rotate_left; (focus intro w'; go_simp; with_reducible rfl); rotate_left; (focus go_simp; rfl)
         refine pure_ (i := 34) (N := some 56) (v := ?_) (a' := ?_) Bz35 rfl rfl (by kernel_rfl) (fun _ _ _ h => h) (Or.inl ⟨by rfl, ?_⟩) ?_ ?_; rotate_left; (focus intro w'; go_simp; with_reducible rfl); rotate_left; (focus go_simp; rfl)
         refine pure_ (i := 35) (N := some 57) (v := ?_) (a' := ?_) Bz36 rfl rfl (by kernel_rfl) (fun _ _ _ h => h) (Or.inl ⟨by rfl, ?_⟩) ?_ ?_; rotate_left; (focus intro w'; go_simp; with_reducible rfl); rotate_left; (focus go_simp; rfl)
         refine pure_ (i := 36) (N := some 58) (v := ?_) (a' := ?_) Bz37 rfl rfl (by kernel_rfl) (fun _ _ _ h => h) (Or.inl ⟨by rfl, ?_⟩) ?_ ?_; rotate_left; (focus intro w'; go_simp; with_reducible rfl); rotate_left; (focus go_simp; rfl)
         refine done_ (by kernel_rfl) ?_
         go_wp2_with fail
         go_meet
         refine ⟨congrArg Value.bool ?_, ⟨Below.trans HWB.out (Below.trans (Below.mono HQ3.out HWS.out) (Below.mono HK.out (Nat.le_trans HWS.out (by have h_ := Below.size HQ3.out; exact h_))))⟩⟩
         rw [HV.out, Z1.out, Bool.false_or, Bool.eq_iff_iff]
         simp only [beq_iff_eq, decide_eq_true_eq]
         omega
        ·have z1b : (x.f0 == kv) = false := by simpa using z1
         have z1c : (x.f0 != kv) = true := by simpa using z1
         have Z1 := Aside0.mk (show decide (x.f0 ≠ kv) = true from decide_eq_true z1)
         clear z1
         refine start_ (n := 37) (S := fun w' => w'.cell? ⟨wr.heap.size, 0, none⟩ = some (.int .u8 x.f0) ∧ w'.cell? ⟨wr.heap.size, 1, none⟩ = some (.slice A1 x.f1.length c1) ∧ w'.cell? ⟨wr.heap.size, 2, none⟩ = some (.slice A2 x.f2.length c2) ∧ w'.cell? ⟨wr.heap.size, 3, none⟩ = some (.slice A3 x.f3.length c3) ∧ w'.cell? ⟨wr.heap.size + 1, 0, none⟩ = some (.slice A1 x.f1.length c1) ∧ w'.cell? ⟨wr.heap.size + 1, 1, none⟩ = some (.slice A2 x.f2.length c2) ∧ w'.cell? ⟨wr.heap.size + 1, 2, none⟩ = some (.slice A3 x.f3.length c3)) (ds := []) Bz0 (by kernel_rfl) rfl rfl ⟨(by exact D0.out), (by exact D1.out), (by exact D2.out), (by exact D3.out), (by exact E0.out), (by exact E1.out), (by exact E2.out)⟩ (fun hHeld => ?_)
         refine pure_ (i := 0) (N := some 22) (v := ?_) (a' := ?_) Bz1 rfl rfl (by kernel_rfl) (fun _ _ _ h => h) (Or.inl ⟨by rfl, ?_⟩) ?_ ?_; rotate_left; (focus intro w'; go_simp; with_reducible rfl); rotate_left; (focus go_simp; rfl)
         refine take_ (i := 1) (N := some 23) (v := ?_) (a' := ?_) Bz2 rfl rfl (by kernel_rfl) (fun _ _ _ h => h) (Or.inl ⟨by rfl, ?_⟩) hHeld ?_ ?_; rotate_left; (focus rintro w' ⟨s0, s1, s2, s3, s4, s5, s6⟩; go_simp; with_reducible rfl); rotate_left; (focus go_simp; rfl)
         refine one_ (i := 2) (N := some 24) Bz3 rfl rfl (by kernel_rfl) (by decide) (fun K hK => ?_)
         refine goes_ Try.func36 (by kernel_rfl) rfl #[.slice A1 x.f1.length c1] (by rfl) rfl rfl (by simp only [List.map_toArray, List.map_cons, List.map_nil]; rfl) ?_
         with_reducible refine (P1.out _ HQ0.out).mono ?_
         rintro e w' ⟨rfl, ⟨q1, rfl⟩⟩
         refine ⟨_, rfl, ?_⟩
         have HQ1 := Aside0.mk (pw_below_drewN HQ0.out q1)
         refine hK.out _ _ ⟨(by exact D0.out), (by exact D1.out), (by exact D2.out), (by exact D3.out), (by exact E0.out), (by exact E1.out), (by exact E2.out)⟩ (fun hHeld => ?_)
         clear hK K
         refine norm_ (a' := ?_) ?_ ?_
         rotate_left
         ·show Act.put _ (some 24) _ = _
          simp only [Act.put, List.setIfInBounds_toArray, List.set_cons_zero, List.set_cons_succ, i64_w, i32_w]
          rfl
         refine pure_ (i := 3) (N := some 25) (v := ?_) (a' := ?_) Bz4 rfl rfl (by kernel_rfl) (fun _ _ _ h => h) (Or.inl ⟨by rfl, ?_⟩) ?_ ?_; rotate_left; (focus intro w'; go_simp; with_reducible rfl); rotate_left; (focus go_simp; rfl)
         refine pure_ (i := 4) (N := some 26) (v := ?_) (a' := ?_) Bz5 rfl rfl (by kernel_rfl) (fun _ _ _ h => h) (Or.inl ⟨by rfl, ?_⟩) ?_ ?_; rotate_left; (focus intro w'; go_simp; with_reducible rfl); rotate_left; (focus go_simp; rfl)
         refine pure_ (i := 5) (N := some 27) (v := ?_) (a' := ?_) Bz6 rfl rfl (by kernel_rfl) (fun _ _ _ h => h) (Or.inl ⟨by rfl, ?_⟩) ?_ ?_; rotate_left; (focus intro w'; go_simp; with_reducible rfl); rotate_left; (focus go_simp; rfl)
         refine take_ (i := 6) (N := some 28) (v := ?_) (a' := ?_) Bz7 rfl rfl (by kernel_rfl) (fun _ _ _ h => h) (Or.inl ⟨by rfl, ?_⟩) hHeld ?_ ?_; rotate_left; (focus rintro w' ⟨s0, s1, s2, s3, s4, s5, s6⟩; go_simp; with_reducible rfl); rotate_left; (focus go_simp; rfl)
         refine one_ (i := 7) (N := some 29) Bz8 rfl rfl (by kernel_rfl) (by decide) (fun K hK => ?_)
         refine goes_ Try.func36 (by kernel_rfl) rfl #[.slice A2 x.f2.length c2] (by rfl) rfl rfl (by simp only [List.map_toArray, List.map_cons, List.map_nil]; rfl) ?_
         with_reducible refine (P2.out _ HQ1.out).mono ?_
         rintro e w' ⟨rfl, ⟨q2, rfl⟩⟩
         refine ⟨_, rfl, ?_⟩
         have HQ2 := Aside0.mk (pw_below_drewN HQ1.out q2)
         refine hK.out _ _ ⟨(by exact D0.out), (by exact D1.out), (by exact D2.out), (by exact D3.out), (by exact E0.out), (by exact E1.out), (by exact E2.out)⟩ (fun hHeld => ?_)
         clear hK K
         refine norm_ (a' := ?_) ?_ ?_
         rotate_left
         ·show Act.put _ (some 29) _ = _
          simp only [Act.put, List.setIfInBounds_toArray, List.set_cons_zero, List.set_cons_succ, i64_w, i32_w]
          rfl
         refine pure_ (i := 8) (N := some 30) (v := ?_) (a' := ?_) Bz9 rfl rfl (by kernel_rfl) (fun _ _ _ h => h) (Or.inl ⟨by rfl, ?_⟩) ?_ ?_; rotate_left; (focus intro w'; go_simp; with_reducible rfl); rotate_left; (focus go_simp; rfl)
         refine pure_ (i := 9) (N := some 31) (v := ?_) (a' := ?_) Bz10 rfl rfl (by kernel_rfl) (fun _ _ _ h => h) (Or.inl ⟨by rfl, ?_⟩) ?_ ?_; rotate_left; (focus intro w'; go_simp; with_reducible rfl); rotate_left; (focus go_simp; rfl)
         refine pure_ (i := 10) (N := some 32) (v := ?_) (a' := ?_) Bz11 rfl rfl (by kernel_rfl) (fun _ _ _ h => h) (Or.inl ⟨by rfl, ?_⟩) ?_ ?_; rotate_left; (focus intro w'; go_simp; with_reducible rfl); rotate_left; (focus go_simp; rfl)
         refine pure_ (i := 11) (N := some 33) (v := ?_) (a' := ?_) Bz12 rfl rfl (by kernel_rfl) (fun _ _ _ h => h) (Or.inl ⟨by rfl, ?_⟩) ?_ ?_; rotate_left; (focus intro w'; go_simp; with_reducible rfl); rotate_left; (focus go_simp; rfl)
         refine take_ (i := 12) (N := some 34) (v := ?_) (a' := ?_) Bz13 rfl rfl (by kernel_rfl) (fun _ _ _ h => h) (Or.inl ⟨by rfl, ?_⟩) hHeld ?_ ?_; rotate_left; (focus rintro w' ⟨s0, s1, s2, s3, s4, s5, s6⟩; go_simp; with_reducible rfl); rotate_left; (focus go_simp; rfl)
         refine one_ (i := 13) (N := some 35) Bz14 rfl rfl (by kernel_rfl) (by decide) (fun K hK => ?_)
         refine goes_ Try.func36 (by kernel_rfl) rfl #[.slice A3 x.f3.length c3] (by rfl) rfl rfl (by simp only [List.map_toArray, List.map_cons, List.map_nil]; rfl) ?_
         with_reducible refine (P3.out _ HQ2.out).mono ?_
         rintro e w' ⟨rfl, ⟨q3, rfl⟩⟩
         refine ⟨_, rfl, ?_⟩
         have HQ3 := Aside0.mk (pw_below_drewN HQ2.out q3)
         refine hK.out _ _ ⟨(by exact D0.out), (by exact D1.out), (by exact D2.out), (by exact D3.out), (by exact E0.out), (by exact E1.out), (by exact E2.out)⟩ (fun hHeld => ?_)
         clear hK K
         refine norm_ (a' := ?_) ?_ ?_
         rotate_left
         ·show Act.put _ (some 35) _ = _
          simp only [Act.put, List.setIfInBounds_toArray, List.set_cons_zero, List.set_cons_succ, i64_w, i32_w]
          rfl
         refine pure_ (i := 14) (N := some 36) (v := ?_) (a' := ?_) Bz15 rfl rfl (by kernel_rfl) (fun _ _ _ h => h) (Or.inl ⟨by rfl, ?_⟩) ?_ ?_; rotate_left; (focus intro w'; go_simp; with_reducible rfl); rotate_left; (focus go_simp; rfl)
         refine pure_ (i := 15) (N := some 37) (v := ?_) (a' := ?_) Bz16 rfl rfl (by kernel_rfl) (fun _ _ _ h => h) (Or.inl ⟨by rfl, ?_⟩) ?_ ?_; rotate_left; (focus intro w'; go_simp; with_reducible rfl); rotate_left; (focus go_simp; rfl)
         refine pure_ (i := 16) (N := some 38) (v := ?_) (a' := ?_) Bz17 rfl rfl (by kernel_rfl) (fun _ _ _ h => h) (Or.inl ⟨by rfl, ?_⟩) ?_ ?_; rotate_left; (focus intro w'; go_simp; with_reducible rfl); rotate_left; (focus go_simp; rfl)
         refine pure_ (i := 17) (N := some 39) (v := ?_) (a' := ?_) Bz18 rfl rfl (by kernel_rfl) (fun _ _ _ h => h) (Or.inl ⟨by rfl, ?_⟩) ?_ ?_; rotate_left; (focus intro w'; go_simp; with_reducible rfl); rotate_left; (focus go_simp; rfl)
         refine take_ (i := 18) (N := some 40) (v := ?_) (a' := ?_) Bz19 rfl rfl (by kernel_rfl) (fun _ _ _ h => h) (Or.inl ⟨by rfl, ?_⟩) hHeld ?_ ?_; rotate_left; (focus rintro w' ⟨s0, s1, s2, s3, s4, s5, s6⟩; go_simp; with_reducible rfl); rotate_left; (focus go_simp; rfl)
         refine take_ (i := 19) (N := some 41) (v := ?_) (a' := ?_) Bz20 rfl rfl (by kernel_rfl) (fun _ _ _ h => h) (Or.inl ⟨by rfl, ?_⟩) hHeld ?_ ?_; rotate_left; (focus rintro w' ⟨s0, s1, s2, s3, s4, s5, s6⟩; go_simp; with_reducible rfl); rotate_left; (focus go_simp; rfl)
         refine one_ (i := 20) (N := some 42) Bz21 rfl rfl (by kernel_rfl) (by decide) (fun K hK => ?_)
         refine goes_ Try.func37 (by kernel_rfl) rfl #[.agg #[.slice A1 x.f1.length c1, .slice A2 x.f2.length c2, .slice A3 x.f3.length c3]] (by rfl) rfl rfl (by simp only [List.map_toArray, List.map_cons, List.map_nil]; rfl) ?_
         with_reducible refine (PK.out _ HQ3.out).mono ?_
         rintro e w3 ⟨rfl, hk⟩
         refine ⟨_, rfl, ?_⟩
         have HK := Aside0.mk hk
         clear hk
         refine hK.out _ _ ⟨(pc_keep HK.out (by exact L0.out) D0.out), (pc_keep HK.out (by exact L0.out) D1.out), (pc_keep HK.out (by exact L0.out) D2.out), (pc_keep HK.out (by exact L0.out) D3.out), (pc_keep HK.out (by exact L1.out) E0.out), (pc_keep HK.out (by exact L1.out) E1.out), (pc_keep HK.out (by exact L1.out) E2.out)⟩ (fun hHeld => ?_)
         clear hK K
         refine norm_ (a' := ?_) ?_ ?_
         rotate_left
         ·show Act.put _ (some 42) _ = _
          simp only [Act.put, List.setIfInBounds_toArray, List.set_cons_zero, List.set_cons_succ, i64_w, i32_w]
          rfl
         refine pure_ (i := 21) (N := some 43) (v := ?_) (a' := ?_) Bz22 rfl rfl (by kernel_rfl) (fun _ _ _ h => h) (Or.inl ⟨by rfl, ?_⟩) ?_ ?_; rotate_left; (focus intro w'; go_simp; with_reducible rfl); rotate_left; (focus go_simp; rfl)
         refine pure_ (i := 22) (N := some 44) (v := ?_) (a' := ?_) Bz23 rfl rfl (by kernel_rfl) (fun _ _ _ h => h) (Or.inl ⟨by rfl, ?_⟩) ?_ ?_; rotate_left; (focus intro w'; go_simp; with_reducible rfl); rotate_left; (focus go_simp; rfl)
         refine pure_ (i := 23) (N := some 45) (v := ?_) (a' := ?_) Bz24 rfl rfl (by kernel_rfl) (fun _ _ _ h => h) (Or.inl ⟨by rfl, ?_⟩) ?_ ?_; rotate_left; (focus intro w'; go_simp; with_reducible rfl); rotate_left; (focus go_simp; rfl)
         refine pure_ (i := 24) (N := some 46) (v := undef) (a' := ?_) Bz25 rfl rfl (by kernel_rfl) (fun _ _ _ h => h) (Or.inr ⟨by rfl, rfl⟩) ?_ ?_; rotate_left; (focus go_simp; rfl)
         refine pure_ (i := 25) (N := some 47) (v := undef) (a' := ?_) Bz26 rfl rfl (by kernel_rfl) (fun _ _ _ h => h) (Or.inr ⟨by rfl, rfl⟩) ?_ ?_; rotate_left; (focus go_simp; rfl)
         refine pure_ (i := 26) (N := some 48) (v := undef) (a' := ?_) Bz27 rfl rfl (by kernel_rfl) (fun _ _ _ h => h) (Or.inr ⟨by rfl, rfl⟩) ?_ ?_; rotate_left; (focus go_simp; rfl)
         refine pure_ (i := 27) (N := some 49) (v := undef) (a' := ?_) Bz28 rfl rfl (by kernel_rfl) (fun _ _ _ h => h) (Or.inr ⟨by rfl, rfl⟩) ?_ ?_; rotate_left; (focus go_simp; rfl)
         refine pure_ (i := 28) (N := some 50) (v := undef) (a' := ?_) Bz29 rfl rfl (by kernel_rfl) (fun _ _ _ h => h) (Or.inr ⟨by rfl, rfl⟩) ?_ ?_; rotate_left; (focus go_simp; rfl)
         refine pure_ (i := 29) (N := some 51) (v := undef) (a' := ?_) Bz30 rfl rfl (by kernel_rfl) (fun _ _ _ h => h) (Or.inr ⟨by rfl, rfl⟩) ?_ ?_; rotate_left; (focus go_simp; rfl)
         refine pure_ (i := 30) (N := some 52) (v := undef) (a' := ?_) Bz31 rfl rfl (by kernel_rfl) (fun _ _ _ h => h) (Or.inr ⟨by rfl, rfl⟩) ?_ ?_; rotate_left; (focus go_simp; rfl)
         refine pure_ (i := 31) (N := some 53) (v := undef) (a' := ?_) Bz32 rfl rfl (by kernel_rfl) (fun _ _ _ h => h) (Or.inr ⟨by rfl, rfl⟩) ?_ ?_; rotate_left; (focus go_simp; rfl)
         refine pure_ (i := 32) (N := some 54) (v := undef) (a' := ?_) Bz33 rfl rfl (by kernel_rfl) (fun _ _ _ h => h) (Or.inr ⟨by rfl, rfl⟩) ?_ ?_; rotate_left; (focus go_simp; rfl)
         refine pure_ (i := 33) (N := some 55) (v := undef) (a' := ?_) Bz34 rfl rfl (by kernel_rfl) (fun _ _ _ h => h) (Or.inr ⟨by rfl, rfl⟩) ?_ ?_; rotate_left; (focus go_simp; rfl)
         refine pure_ (i := 34) (N := some 56) (v := undef) (a' := ?_) Bz35 rfl rfl (by kernel_rfl) (fun _ _ _ h => h) (Or.inr ⟨by rfl, rfl⟩) ?_ ?_; rotate_left; (focus go_simp; rfl)
         refine pure_ (i := 35) (N := some 57) (v := undef) (a' := ?_) Bz36 rfl rfl (by kernel_rfl) (fun _ _ _ h => h) (Or.inr ⟨by rfl, rfl⟩) ?_ ?_; rotate_left; (focus go_simp; rfl)
         refine pure_ (i := 36) (N := some 58) (v := ?_) (a' := ?_) Bz37 rfl rfl (by kernel_rfl) (fun _ _ _ h => h) (Or.inl ⟨by rfl, ?_⟩) ?_ ?_; rotate_left; (focus intro w'; go_simp; with_reducible rfl); rotate_left; (focus go_simp; rfl)
         refine done_ (by kernel_rfl) ?_
         go_wp2_with fail
         go_meet
         exact ⟨congrArg Value.bool (by rw [HV.out, Z1.out]; rfl), ⟨Below.trans HWB.out (Below.trans (Below.mono HQ3.out HWS.out) (Below.mono HK.out (Nat.le_trans HWS.out (by have h_ := Below.size HQ3.out; exact h_))))⟩⟩
    case rest =>
     obtain ⟨rfl, HB2⟩ := hcut
     have hA := HA.out
     rw [HX.out, List.any_cons] at hA
     cases hq : mbad x with
     | true =>
      rw [hq, Bool.true_or] at hA
      have HE := Aside0.mk (show res = 8 by rw [HRES.out, ← hA]; rfl)
      clear hA hq
      go_wp2
      go_ret
      exact ⟨by rw [HE.out]; rfl, HB2.out⟩
     | false =>
      rw [hq, Bool.false_or] at hA
      have HA' := Aside0.mk hA
      clear hA hq
      go_wp2
      go_roundg (l0.length - (j + 1))
      case measure => omega
      case rel => exact ⟨j + 1, by go_num, by omega, by omega, HA', HB2⟩
   ·have q1 : decide ((j : Int) < (l0.length : Int)) = false := decide_eq_false (by omega)
    have HE := Aside0.mk (show l0.any mbad = false by
     rw [← HA.out, List.drop_eq_nil_of_le (by omega)]
     rfl)
    go_wp2
    go_ret
    refine ⟨?_, HB.out⟩
    rw [show res = 0 by rw [HRES.out, HE.out]; rfl]
    rfl
end Go.Proofs.Ytahpbpacjciddaa.Pr
