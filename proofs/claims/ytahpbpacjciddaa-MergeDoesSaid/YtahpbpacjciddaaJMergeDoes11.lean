/- Part 11 of the proof of MergeDoes: texts put together. -/
import Derived.Test.YtahpbpacjciddaaJMergeDoes3
import Derived.Test.YtahpbpacjciddaaJMergeDoes4
import Derived.Test.YtahpbpacjciddaaJMergeDoes6
import Derived.Test.YtahpbpacjciddaaJMergeDoes7
import Derived.Test.YtahpbpacjciddaaJMergeDoes10
import Derived.StillTailTactics
import Derived.IntWalk
section
namespace Go.Proofs.Ytahpbpacjciddaa.Pr
open Go.RowKit Go.Proofs.YtahpbpacjciddaaW.PrintWords Go.Proofs.YtahpbpacjciddaaW.PrintLast Go.Proofs.YtahpbpacjciddaaW.PrintMore
set_option linter.unusedVariables false
set_option linter.unusedSimpArgs false
def mruns (x y : List Int) (n i m : Nat) : Bool := decide (i + m < n) && (decide (x.getD (i + m) 0 = x.getD i 0 + (m : Int)) && decide (y.getD (i + m) 0 = y.getD i 0 + (m : Int)))
def mrun (x y : List Int) (n i : Nat) : Nat → Nat → Nat
 | 0, m => m
 | d + 1, m => if mruns x y n i m = true then mrun x y n i d (m + 1) else m
def mboth (x y : List Int) (i : Nat) : Bool := decide (0 ≤ x.getD i 0) && decide (0 ≤ y.getD i 0)
def mgo (l0 l1 l2 : List ByteArray) (x y : List Int) : Nat → Nat → Nat × Nat × Nat → List S34 → Option ((Nat × Nat × Nat) × List S34)
 | 0, _, _, _ => none
 | f + 1, i, a, out =>
  if i < l0.length then
   if mboth x y i = true then
    (cutAt l0 l1 l2 a (i, (x.getD i 0).toNat, (y.getD i 0).toNat) out).bind fun o1 =>
     (cutAt l0 l1 l2 (i, (x.getD i 0).toNat, (y.getD i 0).toNat) (i + mrun x y l0.length i l0.length 1, (x.getD i 0).toNat + mrun x y l0.length i l0.length 1, (y.getD i 0).toNat + mrun x y l0.length i l0.length 1) o1).bind fun o2 =>
      mgo l0 l1 l2 x y f (i + mrun x y l0.length i l0.length 1) (i + mrun x y l0.length i l0.length 1, (x.getD i 0).toNat + mrun x y l0.length i l0.length 1, (y.getD i 0).toNat + mrun x y l0.length i l0.length 1) o2
   else mgo l0 l1 l2 x y f (i + 1) a out
  else some (a, out)
def mfits (n : Nat) (x : List Int) : Bool := decide (x.length = n) && x.all fun v => decide (-1 ≤ v) && decide (v ≤ 1000000)
def merge_Merge.g (l0 l1 l2 : List ByteArray) (x y : List Int × Int) : Option (List S34 × Int) :=
 if (mfits l0.length x.1 && mfits l0.length y.1 && decide (l0.length ≤ 400000) && decide (l1.length ≤ 400000) && decide (l2.length ≤ 400000)) = true then
  (mgo l0 l1 l2 x.1 y.1 (l0.length + 1) 0 (0, 0, 0) []).bind fun r => (cutAt l0 l1 l2 r.1 (l0.length, l1.length, l2.length) r.2).map fun out => (out, 0)
 else none
def mm3 (k : Nat) (l0 l1 l2 : List ByteArray) : Option (List S34 × Int) := (merge_pairs.f k l0 l1).bind fun x => (merge_pairs.f k l0 l2).bind fun y => merge_Merge.g l0 l1 l2 x y
def mm2 (k : Nat) (l0 l1 l2 : List ByteArray) : Option (List S34 × Int) := (lines_Join.f l2).bind fun j => if j.2 = 0 then mm3 k l0 l1 l2 else some ([], j.2)
def mm1 (k : Nat) (l0 l1 l2 : List ByteArray) : Option (List S34 × Int) := (lines_Join.f l1).bind fun j => if j.2 = 0 then mm2 k l0 l1 l2 else some ([], j.2)
def merge_Merge.f (k : Nat) (l0 l1 l2 : List ByteArray) : Option (List S34 × Int) := (lines_Join.f l0).bind fun j => if j.2 = 0 then mm1 k l0 l1 l2 else some ([], j.2)
def mmAt (k : Nat) (l0 l1 l2 : List ByteArray) : Nat → Option (List S34 × Int)
 | 0 => merge_Merge.f k l0 l1 l2
 | 1 => mm1 k l0 l1 l2
 | 2 => mm2 k l0 l1 l2
 | _ => mm3 k l0 l1 l2
theorem merge_Merge.mono : ∀ a0 a1 a2 k, LeO (merge_Merge.f k a0 a1 a2) (merge_Merge.f (k + 1) a0 a1 a2) := fun a0 a1 a2 k =>
 LeO.bind (LeO.refl _) (fun _ => LeO.ite (LeO.bind (LeO.refl _) (fun _ => LeO.ite (LeO.bind (LeO.refl _) (fun _ => LeO.ite (LeO.bind (merge_pairs.mono _ _ _) (fun _ => LeO.bind (merge_pairs.mono _ _ _) (fun _ => LeO.refl _))) (LeO.refl _))) (LeO.refl _))) (LeO.refl _))
theorem mfits_at {x : List Int} (h : (x.all fun v => decide (-1 ≤ v) && decide (v ≤ 1000000)) = true) {i : Nat} (hi : i < x.length) : -1 ≤ x.getD i 0 ∧ x.getD i 0 ≤ 1000000 := by
 rw [List.getD_eq_getElem?_getD, List.getElem?_eq_getElem hi]
 have := List.all_eq_true.1 h x[i] (List.getElem_mem hi)
 simpa using this
theorem mrun_ge (x y : List Int) (n i : Nat) : ∀ d m, m ≤ mrun x y n i d m
 | 0, _ => Nat.le_refl _
 | d + 1, m => by
  unfold mrun
  split
  ·exact Nat.le_trans (Nat.le_succ m) (mrun_ge x y n i d (m + 1))
  ·exact Nat.le_refl _
theorem mrun_le (x y : List Int) (n i : Nat) : ∀ d m, i + m ≤ n → i + mrun x y n i d m ≤ n
 | 0, _, h => h
 | d + 1, m, h => by
  unfold mrun
  split
  ·rename_i hr
   simp only [mruns, Bool.and_eq_true, decide_eq_true_eq] at hr
   exact mrun_le x y n i d (m + 1) (by omega)
  ·exact h
theorem cutAt_len {l0 l1 l2 : List ByteArray} {a t : Nat × Nat × Nat} {out o1 : List S34} (h : cutAt l0 l1 l2 a t out = some o1) : o1.length ≤ out.length + 1 := by
 unfold cutAt at h
 split at h
 ·rw [← Option.some.inj h]; omega
 ·split at h
  ·rw [← Option.some.inj h]; simp
  ·cases h
theorem int_cell {w : World} {ad : Addr} {n : Nat} {xs : List Int} (h : Kd.C (Kd.int .i64) w (some ad) n xs) (i : Nat) (hi : i < n) : w.cell? (ad.add i) = some (.int .i64 (xs.getD i 0)) := by
 obtain ⟨ad', e, hc⟩ := Kd.at_int h (i : Int) (by omega) (by omega)
 injection e with e
 subst e
 rw [Int.toNat_natCast] at hc
 rw [hc]
 unfold rd
 rw [Int.toNat_natCast]
theorem drewN2 (w : World) (a b : Nat) : (w.drewN a).drewN b = w.drewN (a + b) := World.drewN_drewN w a b
theorem mruns_eq {x y : List Int} {n i m xn yn : Nat} (hx : x.getD i 0 = (xn : Int)) (hy : y.getD i 0 = (yn : Int)) : mruns x y n i m = (decide (i + m < n) && (decide (x.getD (i + m) 0 = ((xn + m : Nat) : Int)) && decide (y.getD (i + m) 0 = ((yn + m : Nat) : Int)))) := by
 unfold mruns
 rw [hx, hy, ← Int.natCast_add, ← Int.natCast_add]
theorem St_below {W W' : World} {gO : Nat} {a : Nat × Nat × Nat} {out : List S34} (h : Cut.St W gO a out) (hb : Below W.heap.size W W') : Cut.St W' gO a out := by
 obtain ⟨v, h1, h2, h3, h4⟩ := h
 exact ⟨v, by rw [hb.block _ (by omega)]; exact h1, by rw [hb.block _ (by omega)]; exact h2, Kd.S_below h3 hb, Nat.le_trans h4 (Below.size hb)⟩
set_option maxHeartbeats 8000000 in
set_option maxRecDepth 100000 in
theorem merge_Merge.calls (k : Nat) (A0 : Option Addr) (c0 : Nat) (l0 : List ByteArray) (A1 : Option Addr) (c1 : Nat) (l1 : List ByteArray) (A2 : Option Addr) (c2 : Nat) (l2 : List ByteArray) (r1 : List S34) (r2 : Int) (w : World) (hr0 : Kd.C Kd.string w A0 l0.length l0) (hc0 : l0.length ≤ c0) (hr1 : Kd.C Kd.string w A1 l1.length l1) (hc1 : l1.length ≤ c1) (hr2 : Kd.C Kd.string w A2 l2.length l2) (hc2 : l2.length ≤ c2) (h : merge_Merge.f k l0 l1 l2 = some (r1, r2)) :
  Calls Try.prog 9 #[.slice A0 l0.length c0, .slice A1 l1.length c1, .slice A2 l2.length c2] w fun e w' => ∃ v0_ : Value, e = .returned (.tuple #[v0_, .int .i64 r2]) ∧ Kd.S k34 34 w' w.heap.size (fun _ => True) v0_ r1 ∧ Below w.heap.size w w' := by
 have i0 : ∀ (x y z : Value) W, (Instr.index 47 (.agg #[x, y, z]) (.int .i64 0)).run Try.prog W = .ok x W := fun x y z W => by kernel_rfl
 have i1 : ∀ (x y z : Value) W, (Instr.index 47 (.agg #[x, y, z]) (.int .i64 1)).run Try.prog W = .ok y W := fun x y z W => by kernel_rfl
 have i2 : ∀ (x y z : Value) W, (Instr.index 47 (.agg #[x, y, z]) (.int .i64 2)).run Try.prog W = .ok z W := fun x y z W => by kernel_rfl
 have HR0 := Aside0.mk hr0
 have HR1 := Aside0.mk hr1
 have HR2 := Aside0.mk hr2
 have H0 := Aside0.mk (show mmAt k l0 l1 l2 0 = some (r1, r2) from h)
 obtain ⟨wB, hwB⟩ : ∃ wB, wB = ((w.alloc (.cells #[.slice A0 l0.length c0] 22)).alloc (.cells #[.slice A1 l1.length c1] 22)).alloc (.cells #[.slice A2 l2.length c2] 22) := ⟨_, rfl⟩
 have HBW := Aside0.mk (show Below w.heap.size w wB by rw [hwB]; exact (((Below.refl _ _).alloc (Nat.le_refl _) _).alloc (by simp) _).alloc (by simp; omega) _)
 have KB := Aside0.mk (show wB.cell? ⟨w.heap.size, 0, none⟩ = some (.slice A0 l0.length c0) by rw [hwB]; go_simp)
 have KU := Aside0.mk (show wB.cell? ⟨w.heap.size + 1, 0, none⟩ = some (.slice A1 l1.length c1) by rw [hwB]; go_simp)
 have KT := Aside0.mk (show wB.cell? ⟨w.heap.size + 1 + 1, 0, none⟩ = some (.slice A2 l2.length c2) by rw [hwB]; go_simp)
 have LB := Aside0.mk (show wB.heap.size = w.heap.size + 3 by rw [hwB]; simp)
 have eg : ∀ args w, (callFunc 27 args).run Try.prog w = .ok (.enter 27 args) w := enters_of Try.func27 (by kernel_rfl) rfl
 clear hr0 hr1 hr2 h
 go_enter Try.func9, Try.ntmps9
 go_upto_block 0 with fail
 rw [← hwB]
 clear hwB
 go_cut [] (fun wx => Aside0 (mmAt k l0 l1 l2 3 = some (r1, r2)) ∧ Aside0 (Below wB.heap.size wB wx))
 case first =>
  go_wp2_with fail
  go_loopg [25] 3 (fun nq v25 wr => ∃ j : Nat, v25 = .int .i64 (j : Int) ∧ j ≤ 3 ∧ 3 - j ≤ nq ∧ Aside0 (mmAt k l0 l1 l2 j = some (r1, r2)) ∧ Aside0 (Below wB.heap.size wB wr))
  case atStart => exact ⟨0, rfl, by omega, by omega, H0, ⟨Below.refl _ _⟩⟩
  case round =>
   clear H0
   obtain ⟨j, rfl, hj, hjq, HM, HBX⟩ := hrel
   have hcase : j = 0 ∨ j = 1 ∨ j = 2 ∨ j = 3 := by omega
   rcases hcase with rfl | rfl | rfl | rfl
   ·obtain ⟨⟨q, e⟩, hq, hm⟩ := Option.bind_eq_some_iff.1 (show merge_Merge.f k l0 l1 l2 = some (r1, r2) from HM.out)
    have HQ := Aside0.mk hq
    have HC := Aside0.mk (Kd.C_below (Kd.C_below HR0.out HBW.out) HBX.out)
    dsimp only at hm
    clear hq HM
    by_cases he : e = 0
    ·subst he
     rw [if_pos rfl] at hm
     have HM' := Aside0.mk hm
     clear hm
     go_wp2_with (go_at_call 25; (with_reducible refine (lines_Join.calls A0 c0 l0 q 0 _ HC.out hc0 HQ.out).mono ?_); rintro e_ w1 ⟨v6, rfl, hv6, hb1⟩; obtain ⟨A6, c6, rfl⟩ := Kd.V_slice hv6; have HB1 := Aside0.mk (Below.trans HBX.out (Below.mono hb1 (Below.size HBX.out))); clear hv6 hb1)
     go_roundg 2
     case measure => omega
     case rel => exact ⟨1, rfl, by omega, by omega, HM', HB1⟩
    ·rw [if_neg he] at hm
     obtain ⟨rfl, rfl⟩ := Prod.mk.inj (Option.some.inj hm)
     clear hm
     have e1 : (e == 0) = false := by simpa using he
     have e2 : (e != 0) = true := by simpa using he
     go_wp2_with (go_at_call 25; (with_reducible refine (lines_Join.calls A0 c0 l0 q e _ HC.out hc0 HQ.out).mono ?_); rintro e_ w1 ⟨v6, rfl, hv6, hb1⟩; obtain ⟨A6, c6, rfl⟩ := Kd.V_slice hv6; have HB1 := Aside0.mk (Below.trans HBX.out (Below.mono hb1 (Below.size HBX.out))); clear hv6 hb1)
     go_ret2
     exact ⟨_, rfl, Kd.S_nil _ _ _ _ _, Below.trans HBW.out (Below.mono HB1.out (Below.size HBW.out))⟩
   ·obtain ⟨⟨q, e⟩, hq, hm⟩ := Option.bind_eq_some_iff.1 (show mm1 k l0 l1 l2 = some (r1, r2) from HM.out)
    have HQ := Aside0.mk hq
    have HC := Aside0.mk (Kd.C_below (Kd.C_below HR1.out HBW.out) HBX.out)
    dsimp only at hm
    clear hq HM
    by_cases he : e = 0
    ·subst he
     rw [if_pos rfl] at hm
     have HM' := Aside0.mk hm
     clear hm
     go_wp2_with (go_at_call 25; (with_reducible refine (lines_Join.calls A1 c1 l1 q 0 _ HC.out hc1 HQ.out).mono ?_); rintro e_ w1 ⟨v6, rfl, hv6, hb1⟩; obtain ⟨A6, c6, rfl⟩ := Kd.V_slice hv6; have HB1 := Aside0.mk (Below.trans HBX.out (Below.mono hb1 (Below.size HBX.out))); clear hv6 hb1)
     go_roundg 1
     case measure => omega
     case rel => exact ⟨2, rfl, by omega, by omega, HM', HB1⟩
    ·rw [if_neg he] at hm
     obtain ⟨rfl, rfl⟩ := Prod.mk.inj (Option.some.inj hm)
     clear hm
     have e1 : (e == 0) = false := by simpa using he
     have e2 : (e != 0) = true := by simpa using he
     go_wp2_with (go_at_call 25; (with_reducible refine (lines_Join.calls A1 c1 l1 q e _ HC.out hc1 HQ.out).mono ?_); rintro e_ w1 ⟨v6, rfl, hv6, hb1⟩; obtain ⟨A6, c6, rfl⟩ := Kd.V_slice hv6; have HB1 := Aside0.mk (Below.trans HBX.out (Below.mono hb1 (Below.size HBX.out))); clear hv6 hb1)
     go_ret2
     exact ⟨_, rfl, Kd.S_nil _ _ _ _ _, Below.trans HBW.out (Below.mono HB1.out (Below.size HBW.out))⟩
   ·obtain ⟨⟨q, e⟩, hq, hm⟩ := Option.bind_eq_some_iff.1 (show mm2 k l0 l1 l2 = some (r1, r2) from HM.out)
    have HQ := Aside0.mk hq
    have HC := Aside0.mk (Kd.C_below (Kd.C_below HR2.out HBW.out) HBX.out)
    dsimp only at hm
    clear hq HM
    by_cases he : e = 0
    ·subst he
     rw [if_pos rfl] at hm
     have HM' := Aside0.mk hm
     clear hm
     go_wp2_with (go_at_call 25; (with_reducible refine (lines_Join.calls A2 c2 l2 q 0 _ HC.out hc2 HQ.out).mono ?_); rintro e_ w1 ⟨v6, rfl, hv6, hb1⟩; obtain ⟨A6, c6, rfl⟩ := Kd.V_slice hv6; have HB1 := Aside0.mk (Below.trans HBX.out (Below.mono hb1 (Below.size HBX.out))); clear hv6 hb1)
     go_roundg 0
     case measure => omega
     case rel => exact ⟨3, rfl, by omega, by omega, HM', HB1⟩
    ·rw [if_neg he] at hm
     obtain ⟨rfl, rfl⟩ := Prod.mk.inj (Option.some.inj hm)
     clear hm
     have e1 : (e == 0) = false := by simpa using he
     have e2 : (e != 0) = true := by simpa using he
     go_wp2_with (go_at_call 25; (with_reducible refine (lines_Join.calls A2 c2 l2 q e _ HC.out hc2 HQ.out).mono ?_); rintro e_ w1 ⟨v6, rfl, hv6, hb1⟩; obtain ⟨A6, c6, rfl⟩ := Kd.V_slice hv6; have HB1 := Aside0.mk (Below.trans HBX.out (Below.mono hb1 (Below.size HBX.out))); clear hv6 hb1)
     go_ret2
     exact ⟨_, rfl, Kd.S_nil _ _ _ _ _, Below.trans HBW.out (Below.mono HB1.out (Below.size HBW.out))⟩
   ·go_wp2
    go_meet
    exact ⟨HM, HBX⟩
 case rest =>
  obtain ⟨HM, HBX⟩ := hcut
  obtain ⟨⟨x, ex⟩, hx, hm⟩ := Option.bind_eq_some_iff.1 (show mm3 k l0 l1 l2 = some (r1, r2) from HM.out)
  obtain ⟨⟨y, ey⟩, hy, hm⟩ := Option.bind_eq_some_iff.1 hm
  unfold merge_Merge.g at hm
  dsimp only at hm
  split at hm
  ·rename_i hcond
   simp only [Bool.and_eq_true, decide_eq_true_eq] at hcond
   obtain ⟨⟨⟨⟨fx, fy⟩, hn0⟩, hn1⟩, hn2⟩ := hcond
   obtain ⟨⟨aF, oF⟩, hgo, hm⟩ := Option.bind_eq_some_iff.1 hm
   obtain ⟨oR, hcR, hm⟩ := Option.map_eq_some_iff.1 hm
   obtain ⟨rfl, rfl⟩ := Prod.mk.inj hm
   dsimp only at hcR
   have HX := Aside0.mk hx
   have HY := Aside0.mk hy
   have FX := Aside0.mk fx
   have FY := Aside0.mk fy
   have HGO := Aside0.mk hgo
   have HCR := Aside0.mk hcR
   clear hx hy fx fy hgo hcR hm HM H0
   obtain ⟨wx, rfl⟩ : ∃ wx, wx = wc := ⟨_, rfl⟩
   have hB := pc_keep HBX.out (by have := LB.out; omega) KB.out
   have hU := pc_keep HBX.out (by have := LB.out; omega) KU.out
   have hT := pc_keep HBX.out (by have := LB.out; omega) KT.out
   have S0 := Aside0.mk (Kd.C_below (Kd.C_below HR0.out HBW.out) HBX.out)
   have S1 := Aside0.mk (Kd.C_below (Kd.C_below HR1.out HBW.out) HBX.out)
   have S2 := Aside0.mk (Kd.C_below (Kd.C_below HR2.out HBW.out) HBX.out)
   have LX := Aside0.mk (show w.heap.size + 3 ≤ wx.heap.size by have := LB.out; have := Below.size HBX.out; omega)
   have HBX' := Aside0.mk (Below.trans HBW.out (Below.mono HBX.out (Below.size HBW.out)))
   clear HBX KB KU KT LB HR0 HR1 HR2 HBW
   go_upto_region 9 with (go_at_call 26; (with_reducible refine (merge_pairs.calls k A0 c0 l0 A1 c1 l1 x ex _ S0.out hc0 S1.out hc1 HX.out).mono ?_); rintro e_ w3 ⟨v12, rfl, hv12, hb3⟩; obtain ⟨AX, cX, rfl⟩ := Kd.R_slice hv12; have V12 := Aside0.mk hv12; have HB3 := Aside0.mk hb3; clear hv12 hb3)
   have hB3 := pc_keep HB3.out (by have := LX.out; omega) hB
   have hU3 := pc_keep HB3.out (by have := LX.out; omega) hU
   have hT3 := pc_keep HB3.out (by have := LX.out; omega) hT
   clear hB hU hT
   go_upto_region 10 with (go_at_call 26; (with_reducible refine (merge_pairs.calls k A0 c0 l0 A2 c2 l2 y ey _ (Kd.C_below S0.out HB3.out) hc0 (Kd.C_below S2.out HB3.out) hc2 HY.out).mono ?_); rintro e_ w4 ⟨v14, rfl, hv14, hb4⟩; obtain ⟨AY, cY, rfl⟩ := Kd.R_slice hv14; have V14 := Aside0.mk hv14; have HB4 := Aside0.mk hb4; clear hv14 hb4)
   have hB4 := pc_keep HB4.out (by have := LX.out; have := Below.size HB3.out; omega) hB3
   have hU4 := pc_keep HB4.out (by have := LX.out; have := Below.size HB3.out; omega) hU3
   have hT4 := pc_keep HB4.out (by have := LX.out; have := Below.size HB3.out; omega) hT3
   clear hB3 hU3 hT3
   have CX := (Kd.C_below (Kd.R_reads' V12.out).2.2 HB4.out)
   have CY := (Kd.R_reads' V14.out).2.2
   have hB34 := Below.trans HB3.out (Below.mono HB4.out (Below.size HB3.out))
   have T0 := Aside0.mk (Kd.C_below S0.out hB34)
   have T1 := Aside0.mk (Kd.C_below S1.out hB34)
   have T2 := Aside0.mk (Kd.C_below S2.out hB34)
   have LW := Aside0.mk (show w.heap.size + 3 ≤ w4.heap.size by have := LX.out; have := Below.size hB34; omega)
   have HB04 := Aside0.mk (Below.trans HBX'.out (Below.mono hB34 (Below.size HBX'.out)))
   have KB := Aside0.mk hB4
   have KU := Aside0.mk hU4
   have KT := Aside0.mk hT4
   simp only [mfits, Bool.and_eq_true, decide_eq_true_eq] at FX FY
   obtain ⟨fx1, fx2⟩ := FX.out
   obtain ⟨fy1, fy2⟩ := FY.out
   rw [fx1] at CX
   rw [fy1] at CY
   simp only [fx1, fy1]
   have CX := Aside0.mk CX
   have CY := Aside0.mk CY
   have LXN := Aside0.mk fx1
   have LYN := Aside0.mk fy1
   have GX := Aside0.mk fx2
   have GY := Aside0.mk fy2
   clear fx1 fy1 hB4 hU4 hT4 V12 V14 HB3 HB4 S0 S1 S2 LX HBX' hB34 FX FY fx2 fy2 HX HY
   go_upto_block 2 with fail
   obtain ⟨wL, hwL⟩ : ∃ wL, wL = (w4.alloc (Obj.cells #[Value.slice none 0 0] 24)).alloc (Obj.cells #[Value.int IntKind.i64 0, Value.int IntKind.i64 0, Value.int IntKind.i64 0] 54) := ⟨_, rfl⟩
   have HBL0 := Aside0.mk (show Below w4.heap.size w4 wL by rw [hwL]; exact ((Below.refl _ _).alloc (Nat.le_refl _) _).alloc (by simp) _)
   have HST0 := Aside0.mk (show Cut.St wL w4.heap.size (0, 0, 0) [] by
    refine ⟨.slice none 0 0, ?_, ?_, Kd.S_nil _ _ _ _ _, ?_⟩
    ·rw [hwL, Below.heap_alloc _ _ _ (by simp)]
     exact Go.heap_alloc_new w4 _
    ·rw [hwL]
     have h := Go.heap_alloc_new (w4.alloc (Obj.cells #[Value.slice none 0 0] 24)) (Obj.cells #[Value.int IntKind.i64 0, Value.int IntKind.i64 0, Value.int IntKind.i64 0] 54)
     rw [World.size_alloc] at h
     exact h
    ·rw [hwL]; simp)
   rw [← hwL]
   clear hwL
   go_cut [] (fun wy => Aside0 (Cut.St wy w4.heap.size aF oF) ∧ Aside0 (Below w4.heap.size w4 wy) ∧ oF.length ≤ 1000000)
   case first =>
    go_wp2_with fail
    go_loopg [19] (l0.length + 1) (fun nq v19 wr => ∃ (n i : Nat) (a : Nat × Nat × Nat) (out : List S34), n = nq ∧ v19 = .int .i64 (i : Int) ∧ i ≤ l0.length ∧ Aside0 (mgo l0 l1 l2 x y n i a out = some (aF, oF)) ∧ out.length ≤ 2 * i ∧ Aside0 (Cut.St wr w4.heap.size a out) ∧ Aside0 (Below w4.heap.size w4 wr))
    case atStart => exact ⟨_, 0, (0, 0, 0), [], rfl, rfl, by omega, HGO, by simp, HST0, HBL0⟩
    case round =>
     clear HGO HST0 HBL0
     obtain ⟨n, i, a, out, rfl, rfl, hi, HG, hol, HST, HBL⟩ := hrel
     obtain ⟨n', rfl⟩ : ∃ n', n = n' + 1 := by
      cases n with
      | zero => exact absurd HG.out (by simp [mgo])
      | succ n => exact ⟨n, rfl⟩
     have hBr := pc_keep HBL.out (by have := LW.out; omega) KB.out
     have hg := HG.out
     unfold mgo at hg
     by_cases hlt : i < l0.length
     ·have q1 : decide ((i : Int) < (l0.length : Int)) = true := decide_eq_true (by omega)
      have q2 : decide (i < l0.length) = true := decide_eq_true hlt
      rw [if_pos hlt] at hg
      have HG' := Aside0.mk hg
      clear hg
      obtain ⟨adX, rfl, hcx⟩ := Kd.at_int (Kd.C_below CX.out HBL.out) (i : Int) (by omega) (by omega)
      obtain ⟨adY, rfl, hcy⟩ := Kd.at_int (Kd.C_below CY.out HBL.out) (i : Int) (by omega) (by omega)
      rw [Int.toNat_natCast] at hcx hcy
      have ex1 : rd x (i : Int) = x.getD i 0 := by unfold rd; rw [Int.toNat_natCast]
      have ey1 : rd y (i : Int) = y.getD i 0 := by unfold rd; rw [Int.toNat_natCast]
      rw [ex1] at hcx
      rw [ey1] at hcy
      clear ex1 ey1
      have bx := mfits_at GX.out (show i < x.length by have := LXN.out; omega)
      have by_ := mfits_at GY.out (show i < y.length by have := LYN.out; omega)
      go_upto_region 16 with fail
      go_cut [68] (fun s68 wc => s68 = .bool (!mboth x y i) ∧ wc = wr)
      case first =>
       obtain ⟨xi, hxi⟩ : ∃ xi, xi = x.getD i 0 := ⟨_, rfl⟩
       obtain ⟨yi, hyi⟩ : ∃ yi, yi = y.getD i 0 := ⟨_, rfl⟩
       have HE := Aside0.mk (show mboth x y i = (decide (0 ≤ xi) && decide (0 ≤ yi)) by rw [hxi, hyi]; rfl)
       rw [← hxi] at hcx bx
       rw [← hyi] at hcy by_
       clear hxi hyi
       by_cases z1 : xi < 0
       ·have z1b : decide (xi < 0) = true := decide_eq_true z1
        go_wp2
        go_meet
        exact ⟨congrArg Value.bool (by rw [HE.out, decide_eq_false (by omega), Bool.false_and]; rfl), rfl⟩
       ·have z1b : decide (xi < 0) = false := decide_eq_false z1
        by_cases z2 : yi < 0
        ·have z2b : decide (yi < 0) = true := decide_eq_true z2
         go_wp2
         go_meet
         exact ⟨congrArg Value.bool (by rw [HE.out, decide_eq_false (p := 0 ≤ yi) (by omega), Bool.and_false]; rfl), rfl⟩
        ·have z2b : decide (yi < 0) = false := decide_eq_false z2
         go_wp2
         go_meet
         exact ⟨congrArg Value.bool (by rw [HE.out, decide_eq_true (p := 0 ≤ yi) (by omega), decide_eq_true (p := 0 ≤ xi) (by omega)]; rfl), rfl⟩
      case rest =>
       obtain ⟨rfl, hwc⟩ := hcut
       subst wc
       have hg := HG'.out
       cases hq : mboth x y i with
       | false =>
        rw [hq, if_neg Bool.false_ne_true] at hg
        have HG2 := Aside0.mk hg
        rw [Bool.not_false]
        clear hg hq HG'
        go_wp2
        go_roundg n'
        case measure => omega
        case rel => exact ⟨n', i + 1, a, out, rfl, by go_num, by omega, HG2, by omega, HST, HBL⟩
       | true =>
        rw [hq, if_pos rfl] at hg
        obtain ⟨o1, hz1, hg⟩ := Option.bind_eq_some_iff.1 hg
        obtain ⟨o2, hz2, hg⟩ := Option.bind_eq_some_iff.1 hg
        have z := hq
        simp only [mboth, Bool.and_eq_true, decide_eq_true_eq] at z
        obtain ⟨xn, hxn⟩ := Int.eq_ofNat_of_zero_le z.1
        obtain ⟨yn, hyn⟩ := Int.eq_ofNat_of_zero_le z.2
        rw [hxn] at hcx bx
        rw [hyn] at hcy by_
        rw [hxn, hyn] at hz1 hz2 hg
        simp only [Int.toNat_natCast] at hz1 hz2 hg
        obtain ⟨M, hM⟩ : ∃ M, M = mrun x y l0.length i l0.length 1 := ⟨_, rfl⟩
        rw [← hM] at hz2 hg
        have hM1 := mrun_ge x y l0.length i l0.length 1
        have hM2 := mrun_le x y l0.length i l0.length 1 (by omega)
        rw [← hM] at hM1 hM2
        have HM1 := Aside0.mk hM
        have HC1 := Aside0.mk hz1
        have HC2 := Aside0.mk hz2
        have HG2 := Aside0.mk hg
        have HXN := Aside0.mk hxn
        have HYN := Aside0.mk hyn
        have hol1 : o1.length ≤ out.length + 1 := cutAt_len hz1
        have hol2 : o2.length ≤ o1.length + 1 := cutAt_len hz2
        have HCL := Aside0.mk (cut.calls w4.heap.size w.heap.size (w.heap.size + 1) (w.heap.size + 1 + 1) wr.drew A0 c0 l0 A1 c1 l1 A2 c2 l2 (Kd.C_drew (Kd.C_below T0.out HBL.out)) hc0 (Kd.C_drew (Kd.C_below T1.out HBL.out)) hc1 (Kd.C_drew (Kd.C_below T2.out HBL.out)) hc2 (by omega) (by omega) (by omega) (pc_keep (i := 0) HBL.out (by have := LW.out; omega) KB.out) (pc_keep (i := 0) HBL.out (by have := LW.out; omega) KU.out) (pc_keep (i := 0) HBL.out (by have := LW.out; omega) KT.out) (by have := LW.out; omega) (by have := LW.out; omega) (by have := LW.out; omega) a.1 a.2.1 a.2.2 i xn yn (by omega) (by omega) (by omega) out o1 (by omega) HST.out HC1.out)
        clear hg hz1 hz2 hxn hyn hM z hq HG'
        rw [Bool.not_true]
        go_upto_region 17 with fail
        go_still_tail 11, (by kernel_rfl)
        go_upto_block 4 with (go_at_fn 27; (with_reducible refine HCL.out.mono ?_); rintro e_ w6 ⟨rfl, hp⟩; have HP6 := Aside0.mk hp; clear hp)
        have HBL6 := Aside0.mk (Below.trans HBL.out (Below.trans (below_drew1 (Below.refl _ _)) HP6.out.2))
        have hB6 := pc_keep (i := 0) HBL6.out (by have := LW.out; omega) KB.out
        have CX6 := Aside0.mk (Kd.C_below CX.out HBL6.out)
        have CY6 := Aside0.mk (Kd.C_below CY.out HBL6.out)
        clear hBr hcx hcy HCL
        go_cut [20] (fun v20 wz => v20 = .int .i64 (M : Int) ∧ ∃ q, wz = w6.drewN q)
        case first =>
         go_wp2_with fail
         go_loopg [20] l0.length (fun nq2 v20 w7 => ∃ d m q : Nat, v20 = .int .i64 (m : Int) ∧ d = nq2 ∧ m + d = l0.length + 1 ∧ 1 ≤ m ∧ i + m ≤ l0.length ∧ Aside0 (mrun x y l0.length i d m = M) ∧ w7 = w6.drewN q)
         case atStart => exact ⟨_, 1, 0, rfl, rfl, by omega, by omega, by omega, ⟨HM1.out.symm⟩, rfl⟩
         case round =>
          obtain ⟨d, m, q, rfl, rfl, hmd, hm1, him, HR, rfl⟩ := hrel
          have hx0 := int_cell CX6.out i (by omega)
          have hy0 := int_cell CY6.out i (by omega)
          rw [HXN.out] at hx0
          rw [HYN.out] at hy0
          go_upto_region 19 with fail
          go_cut [116] (fun s116 wz => s116 = .bool (mruns x y l0.length i m) ∧ ∃ q, wz = w6.drewN q)
          case first =>
           have HE := Aside0.mk (mruns_eq (n := l0.length) (m := m) HXN.out HYN.out)
           have j0 : IntKind.i64.wrap ((i : Int) + (m : Int)) = (i : Int) + (m : Int) := IntWalk.i64_in _ (by omega)
           have j1 : ((i : Int) + (m : Int)).toNat = i + m := by omega
           have j2 : (0 : Int) ≤ (i : Int) + (m : Int) := by omega
           by_cases z1 : i + m < l0.length
           ·have z1b : decide ((i : Int) + (m : Int) < (l0.length : Int)) = true := decide_eq_true (by omega)
            have z1c : (i : Int) + (m : Int) < (l0.length : Int) := by omega
            have hx1 := int_cell CX6.out (i + m) z1
            have hy1 := int_cell CY6.out (i + m) z1
            obtain ⟨xv, hxv⟩ : ∃ v, v = x.getD (i + m) 0 := ⟨_, rfl⟩
            obtain ⟨yv, hyv⟩ : ∃ v, v = y.getD (i + m) 0 := ⟨_, rfl⟩
            rw [← hxv] at hx1
            rw [← hyv] at hy1
            have HE2 := Aside0.mk (show mruns x y l0.length i m = (decide (xv = ((xn + m : Nat) : Int)) && decide (yv = ((yn + m : Nat) : Int))) by rw [HE.out, ← hxv, ← hyv, decide_eq_true z1, Bool.true_and])
            clear hxv hyv
            have j3 : IntKind.i64.wrap ((xn : Int) + (m : Int)) = (xn : Int) + (m : Int) := IntWalk.i64_in _ (by omega)
            have j4 : IntKind.i64.wrap ((yn : Int) + (m : Int)) = (yn : Int) + (m : Int) := IntWalk.i64_in _ (by omega)
            by_cases z2 : xv = (xn : Int) + (m : Int)
            ·have z2b : (xv == (xn : Int) + (m : Int)) = true := by simpa using z2
             have Z2 := Aside0.mk (show xv = ((xn + m : Nat) : Int) by omega)
             by_cases z3 : yv = (yn : Int) + (m : Int)
             ·have z3b : (yv == (yn : Int) + (m : Int)) = true := by simpa using z3
              have Z3 := Aside0.mk (show yv = ((yn + m : Nat) : Int) by omega)
              clear z2 z3
              go_quiet (fail)
              go_wp2
              go_meet
              exact ⟨congrArg Value.bool (by rw [HE2.out, decide_eq_true Z2.out, decide_eq_true Z3.out]; rfl), _, drewN2 _ _ _⟩
             ·have z3b : (yv == (yn : Int) + (m : Int)) = false := by simpa using z3
              have Z3 := Aside0.mk (show ¬ yv = ((yn + m : Nat) : Int) by omega)
              clear z2 z3
              go_quiet (fail)
              go_wp2
              go_meet
              exact ⟨congrArg Value.bool (by rw [HE2.out, decide_eq_false Z3.out, Bool.and_false]), _, drewN2 _ _ _⟩
            ·have z2b : (xv == (xn : Int) + (m : Int)) = false := by simpa using z2
             have Z2 := Aside0.mk (show ¬ xv = ((xn + m : Nat) : Int) by omega)
             clear z2
             go_quiet (fail)
             go_wp2
             go_meet
             exact ⟨congrArg Value.bool (by rw [HE2.out, decide_eq_false Z2.out, Bool.false_and]), _, drewN2 _ _ _⟩
           ·have z1b : decide ((i : Int) + (m : Int) < (l0.length : Int)) = false := decide_eq_false (by omega)
            have HE2 := Aside0.mk (show mruns x y l0.length i m = false by rw [HE.out, decide_eq_false z1]; rfl)
            go_quiet (fail)
            go_wp2
            go_meet
            exact ⟨congrArg Value.bool HE2.out.symm, _, drewN2 _ _ _⟩
          case rest =>
           obtain ⟨rfl, q', rfl⟩ := hcut
           have hr := HR.out
           clear hx0 hy0 HR
           cases hq : mruns x y l0.length i m with
           | true =>
            cases d with
            | zero =>
             exfalso
             simp only [mruns, Bool.and_eq_true, decide_eq_true_eq] at hq
             omega
            | succ d =>
             unfold mrun at hr
             rw [if_pos hq] at hr
             have him2 : i + (m + 1) ≤ l0.length := by
              simp only [mruns, Bool.and_eq_true, decide_eq_true_eq] at hq
              omega
             have HR' := Aside0.mk hr
             clear hr hq
             go_wp2
             go_roundg d
             case measure => omega
             case rel => exact ⟨d, m + 1, q', by go_num, rfl, by omega, by omega, him2, HR', rfl⟩
           | false =>
            have hm : m = M := by
             cases d with
             | zero => exact hr
             | succ d =>
              unfold mrun at hr
              rw [hq] at hr
              exact hr
            subst hm
            clear hr hq
            go_wp2
            go_meet
            exact ⟨rfl, _, rfl⟩
        case rest =>
         obtain ⟨rfl, q, hwc⟩ := hcut
         have hbq : Below w6.heap.size w6 wc.drew := by rw [hwc]; exact below_drew1 (pw_below_drewN (Below.refl _ _) q)
         have HBQ := Aside0.mk (Below.trans HBL6.out (Below.mono hbq (Below.size HBL6.out)))
         have hcl := cut.calls w4.heap.size w.heap.size (w.heap.size + 1) (w.heap.size + 1 + 1) wc.drew A0 c0 l0 A1 c1 l1 A2 c2 l2 (Kd.C_below T0.out HBQ.out) hc0 (Kd.C_below T1.out HBQ.out) hc1 (Kd.C_below T2.out HBQ.out) hc2 (by omega) (by omega) (by omega) (pc_keep (i := 0) HBQ.out (by have := LW.out; omega) KB.out) (pc_keep (i := 0) HBQ.out (by have := LW.out; omega) KU.out) (pc_keep (i := 0) HBQ.out (by have := LW.out; omega) KT.out) (by have := LW.out; omega) (by have := LW.out; omega) (by have := LW.out; omega) i xn yn (i + M) (xn + M) (yn + M) (by omega) (by omega) (by omega) o1 o2 (by omega) (St_below HP6.out.1 hbq) HC2.out
         simp only [Int.natCast_add] at hcl
         have HCL2 := Aside0.mk hcl
         have hx0 : wc.cell? (adX.add i) = some (.int .i64 (xn : Int)) := by
          have h := int_cell CX6.out i (by omega)
          rw [HXN.out] at h
          rw [hwc]
          exact h
         have hy0 : wc.cell? (adY.add i) = some (.int .i64 (yn : Int)) := by
          have h := int_cell CY6.out i (by omega)
          rw [HYN.out] at h
          rw [hwc]
          exact h
         clear hwc
         have j0 : IntKind.i64.wrap ((i : Int) + (M : Int)) = (i : Int) + (M : Int) := IntWalk.i64_in _ (by omega)
         have j3 : IntKind.i64.wrap ((xn : Int) + (M : Int)) = (xn : Int) + (M : Int) := IntWalk.i64_in _ (by omega)
         have j4 : IntKind.i64.wrap ((yn : Int) + (M : Int)) = (yn : Int) + (M : Int) := IntWalk.i64_in _ (by omega)
         clear hbq hcl
         go_upto_region 21 with fail
         go_still_tail 17, (by kernel_rfl)
         clear j0 j3 j4
         go_wp2_with (go_at_fn 27; (with_reducible refine HCL2.out.mono ?_); rintro e_ w8 ⟨rfl, hp⟩; have HP8 := Aside0.mk hp; clear hp)
         go_roundg n'
         case measure => omega
         case rel => exact ⟨n', i + M, (i + M, xn + M, yn + M), o2, rfl, by congr 1; omega, by omega, HG2, by omega, ⟨HP8.out.1⟩, ⟨Below.trans HBQ.out HP8.out.2⟩⟩
     ·have q1 : decide ((i : Int) < (l0.length : Int)) = false := decide_eq_false (by omega)
      have q2 : decide (i < l0.length) = false := decide_eq_false hlt
      rw [if_neg hlt] at hg
      obtain ⟨rfl, rfl⟩ := Prod.mk.inj (Option.some.inj hg)
      clear hg
      go_wp2
      go_meet
      exact ⟨HST, HBL, by omega⟩
   case rest =>
    obtain ⟨HST, HBL, hol⟩ := hcut
    have hB9 := pc_keep (i := 0) HBL.out (by have := LW.out; omega) KB.out
    have hU9 := pc_keep (i := 0) HBL.out (by have := LW.out; omega) KU.out
    have hT9 := pc_keep (i := 0) HBL.out (by have := LW.out; omega) KT.out
    have HCL := Aside0.mk (cut.calls w4.heap.size w.heap.size (w.heap.size + 1) (w.heap.size + 1 + 1) wc A0 c0 l0 A1 c1 l1 A2 c2 l2 (Kd.C_below T0.out HBL.out) hc0 (Kd.C_below T1.out HBL.out) hc1 (Kd.C_below T2.out HBL.out) hc2 (by omega) (by omega) (by omega) hB9 hU9 hT9 (by have := LW.out; omega) (by have := LW.out; omega) (by have := LW.out; omega) aF.1 aF.2.1 aF.2.2 l0.length l1.length l2.length (by omega) (by omega) (by omega) oF oR hol HST.out HCR.out)
    go_upto_region 24 with (go_at_fn 27; (with_reducible refine HCL.out.mono ?_); rintro e_ w9 ⟨rfl, hp⟩; have HP9 := Aside0.mk hp; clear hp)
    obtain ⟨vO, hO, hA, hS, hsz⟩ := HP9.out.1
    have hc9 := cell_of_one hO
    obtain ⟨AO, cO, rfl⟩ := Kd.S_slice hS
    have HS := Aside0.mk hS
    clear hO hA hS hsz
    go_wp2
    go_ret2
    exact ⟨_, rfl, Kd.S_lower HS.out (by have := LW.out; omega), Below.trans HB04.out (Below.mono (Below.trans HBL.out HP9.out.2) (by have := LW.out; omega))⟩
  ·cases hm
end Go.Proofs.Ytahpbpacjciddaa.Pr
end
section
namespace Go.Proofs.Ytahpbpacjciddaa.Pr
open Go.RowKit Go.Proofs.YtahpbpacjciddaaW.PrintWords Go.Proofs.YtahpbpacjciddaaW.PrintLast Go.Proofs.YtahpbpacjciddaaW.PrintMore
set_option linter.unusedVariables false
set_option linter.unusedSimpArgs false
def pairA {α β : Type} (a : Kd α) (b : Kd β) : Kd (α × β) where
 sz := a.sz + b.sz
 E := a.E ++ b.E
 K := (Kd.pair a b).K
 M := fun w base ok x cs => ∃ p : Nat → Prop, ∃ c0 c1, cs = c0 ++ c1 ∧ a.M w base (fun k => ok k ∧ p k) x.1 c0 ∧ b.M w base (fun k => ok k ∧ ¬ p k) x.2 c1
 K_len := (Kd.pair a b).K_len
 K_one := (Kd.pair a b).K_one
 K_below := (Kd.pair a b).K_below
 K_of_M := by
  rintro w base ok x cs ⟨p, c0, c1, rfl, h0, h1⟩
  exact ⟨c0, c1, rfl, a.K_of_M h0, b.K_of_M h1⟩
 M_mono := by
  rintro w base ok ok' x cs hok ⟨p, c0, c1, rfl, h0, h1⟩
  exact ⟨p, c0, c1, rfl, a.M_mono (fun k hk => ⟨hok k hk.1, hk.2⟩) h0, b.M_mono (fun k hk => ⟨hok k hk.1, hk.2⟩) h1⟩
 M_bound := by
  rintro w base ok x cs ⟨p, c0, c1, rfl, h0, h1⟩
  refine ⟨p, c0, c1, rfl, a.M_mono ?_ (a.M_bound h0), b.M_mono ?_ (b.M_bound h1)⟩
  ·rintro k ⟨h2, h3, h4, q, hq, hc⟩
   exact ⟨⟨h2.1, h3, h4, q, List.mem_append_left _ hq, hc⟩, h2.2⟩
  ·rintro k ⟨h2, h3, h4, q, hq, hc⟩
   exact ⟨⟨h2.1, h3, h4, q, List.mem_append_right _ hq, hc⟩, h2.2⟩
 M_move := by
  rintro w w1 base ok x cs hm ⟨p, c0, c1, rfl, h0, h1⟩
  exact ⟨p, c0, c1, rfl, a.M_move (fun k hk => hm k hk.1) h0, b.M_move (fun k hk => hm k hk.1) h1⟩
 M_lower := by
  rintro w base base' ok x cs hb ⟨p, c0, c1, rfl, h0, h1⟩
  exact ⟨p, c0, c1, rfl, a.M_lower hb h0, b.M_lower hb h1⟩
theorem infoHa : (Try.prog.info? 82).map (fun i => (i.zero, i.size, i.bytes)) = some (some (.agg #[(.int .i64 0), (.slice none 0 0), (.slice none 0 0)]), 3, 56) := by kernel_rfl
def kHa : Kd S82 := Kd.iso (Kd.pair (Kd.int .i64) (pairA (Kd.slice 9 Kd.string) (Kd.slice 9 Kd.string))) (fun x : S82 => (x.f0, x.f1, x.f2))
theorem kHa_openM {w : World} {base : Nat} {ok : Nat → Prop} {x : S82} {cs : List Value} (h : kHa.M w base ok x cs) :
  ∃ (p : Nat → Prop) (v1 v2 : Value), cs = [.int .i64 x.f0, v1, v2] ∧ Kd.string.R 9 w base (fun k => ok k ∧ p k) v1 x.f1 ∧ Kd.string.R 9 w base (fun k => ok k ∧ ¬ p k) v2 x.f2 := by
 obtain ⟨_, _, rfl, rfl, ⟨p, _, _, rfl, ⟨v1, rfl, g1⟩, ⟨v2, rfl, g2⟩⟩⟩ := h
 exact ⟨p, v1, v2, rfl, g1, g2⟩
theorem kHa_mkM {w : World} {base : Nat} {ok : Nat → Prop} (x : S82) (p : Nat → Prop) {v1 v2 : Value} (g1 : Kd.string.R 9 w base (fun k => ok k ∧ p k) v1 x.f1) (g2 : Kd.string.R 9 w base (fun k => ok k ∧ ¬ p k) v2 x.f2) :
  kHa.M w base ok x [.int .i64 x.f0, v1, v2] :=
 ⟨[.int .i64 x.f0], [v1, v2], rfl, rfl, p, [v1], [v2], rfl, ⟨v1, rfl, g1⟩, ⟨v2, rfl, g2⟩⟩
theorem kHa_weakM {w : World} {base : Nat} {ok : Nat → Prop} {x : S82} {cs : List Value} (h : kHa.M w base ok x cs) : k82.M w base ok x cs := by
 obtain ⟨p, v1, v2, rfl, g1, g2⟩ := kHa_openM h
 exact k82_mkM w base ok x (Kd.R_mono g1 (fun _ hk => hk.1)) (Kd.R_mono g2 (fun _ hk => hk.1))
theorem kHa_weakS {e : Nat} {w : World} {base : Nat} {ok : Nat → Prop} {v : Value} {xs : List S82} (h : Kd.S kHa e w base ok v xs) : Kd.S k82 e w base ok v xs := by
 obtain ⟨f, h0, inner, ho, hr⟩ := h
 exact ⟨f, h0, inner, ho, hr.imp_ (fun _ _ hp => kHa_weakM hp)⟩
theorem kHa_lend1 {e : Nat} {W : World} {base g n cap : Nat} {xs : List S82} (hS : Kd.S kHa e W base (fun _ => True) (.slice (some ⟨g, 0, none⟩) n cap) xs) (i : Nat) (h1 : i < n) :
  ∃ (v1 : Value) (okr : Nat → Prop), W.cell? ⟨g, i * 3 + 1, none⟩ = some v1 ∧ W.frozen? ⟨g, i * 3 + 1, none⟩ = false ∧ (∀ k, W.heap.size ≤ k → okr k) ∧ (∀ k, v1.ownBlock = some k → k ≠ g) ∧ Kd.string.R 9 W base okr v1 (xs.getD i z82).f1 ∧
   ∀ (w1 : World) (v' : Value) (ys : List ByteArray), W.grownBy w1 v1.ownBlock → Kd.string.R 9 w1 base okr v' ys → w1.cell? ⟨g, i * 3 + 1, none⟩ = some v1 ∧ w1.frozen? ⟨g, i * 3 + 1, none⟩ = false ∧
    Kd.S kHa e (w1.setCell ⟨g, i * 3 + 1, none⟩ v') base (fun _ => True) (.slice (some ⟨g, 0, none⟩) n cap) (xs.set i ⟨(xs.getD i z82).f0, ys, (xs.getD i z82).f2⟩) ∧ w1.grownBy (w1.setCell ⟨g, i * 3 + 1, none⟩ v') (some g) := by
 have hlt : g < W.heap.size := Kd.S_lt hS g (by simp [Value.ownBlock])
 have hS' : Kd.S kHa e W base (fun k => True ∧ ¬ W.heap.size ≤ k) (.slice (some ⟨g, 0, none⟩) n cap) xs := Kd.S_mono (Kd.S_bound hS) (fun k hk => ⟨trivial, by have := hk.2.2.1; omega⟩)
 obtain ⟨oki, c, hcl, hM, hcc, hfr, hoki, hH⟩ := Kd.S_elem hS' z82 (i : Int) (by omega) (by omega)
 rw [Int.toNat_natCast] at hM hcc
 simp only [Int.toNat_natCast] at hfr
 obtain ⟨p, v1, v2, rfl, g1, g2⟩ := kHa_openM hM
 have hsz : kHa.sz = 3 := rfl
 rw [hsz] at hcc hfr
 have hr1 : ∀ k, v1.ownBlock = some k → oki k ∧ p k := g1.1
 refine ⟨v1, fun k => (oki k ∧ p k) ∨ W.heap.size ≤ k, hcc 1 v1 rfl, hfr 1, fun k hk => .inr hk, fun k hk => (hoki k (hr1 k hk).1).2, Kd.R_mono g1 (fun _ hk => .inl hk), fun w1 v' ys hg hR => ?_⟩
 have hne : (some g : Option Nat) ≠ v1.ownBlock := fun he => (hoki g (hr1 g he.symm).1).2 rfl
 have hH1 := Kd.H_grown hH hg (fun k hk => (hr1 k hk).1)
 have g2' : Kd.string.R 9 w1 base (fun k => (oki k ∨ W.heap.size ≤ k) ∧ ¬ (p k ∨ W.heap.size ≤ k)) v2 (xs.getD i z82).f2 :=
  Kd.R_mono (Kd.R_grown (Kd.R_bound g2) hg (fun k hk he => hk.1.2 (hr1 k he.symm).2)) (fun k hk => ⟨.inl hk.1.1, fun h => h.elim hk.1.2 (fun h => by have := hk.2.2.1; omega)⟩)
 have g1' : Kd.string.R 9 w1 base (fun k => (oki k ∨ W.heap.size ≤ k) ∧ (p k ∨ W.heap.size ≤ k)) v' ys := Kd.R_mono hR (fun k hk => hk.elim (fun h => ⟨.inl h.1, .inl h.2⟩) (fun h => ⟨.inr h, .inr h⟩))
 have h3 := Kd.S_seg (okg := fun k => W.heap.size ≤ k) hH1 (by omega) (by omega) (seg := [v']) (j := 1) (by show 1 + 1 ≤ 3; omega)
  (x' := ⟨(xs.getD i z82).f0, ys, (xs.getD i z82).f2⟩) (kHa_mkM ⟨(xs.getD i z82).f0, ys, (xs.getD i z82).f2⟩ (fun k => p k ∨ W.heap.size ≤ k) g1' g2') (fun k hk => hk) (fun k hk => ⟨trivial, by omega⟩)
 rw [Int.toNat_natCast, hsz] at h3
 exact ⟨cell_grown hg (hcc 1 v1 rfl) hne, by rw [hg.frozen_far _ hlt hne]; exact hfr 1, h3.1, h3.2⟩
theorem kHa_lend2 {e : Nat} {W : World} {base g n cap : Nat} {xs : List S82} (hS : Kd.S kHa e W base (fun _ => True) (.slice (some ⟨g, 0, none⟩) n cap) xs) (i : Nat) (h1 : i < n) :
  ∃ (v2 : Value) (okr : Nat → Prop), W.cell? ⟨g, i * 3 + 2, none⟩ = some v2 ∧ W.frozen? ⟨g, i * 3 + 2, none⟩ = false ∧ (∀ k, W.heap.size ≤ k → okr k) ∧ (∀ k, v2.ownBlock = some k → k ≠ g) ∧ Kd.string.R 9 W base okr v2 (xs.getD i z82).f2 ∧
   ∀ (w1 : World) (v' : Value) (ys : List ByteArray), W.grownBy w1 v2.ownBlock → Kd.string.R 9 w1 base okr v' ys → w1.cell? ⟨g, i * 3 + 2, none⟩ = some v2 ∧ w1.frozen? ⟨g, i * 3 + 2, none⟩ = false ∧
    Kd.S kHa e (w1.setCell ⟨g, i * 3 + 2, none⟩ v') base (fun _ => True) (.slice (some ⟨g, 0, none⟩) n cap) (xs.set i ⟨(xs.getD i z82).f0, (xs.getD i z82).f1, ys⟩) ∧ w1.grownBy (w1.setCell ⟨g, i * 3 + 2, none⟩ v') (some g) := by
 have hlt : g < W.heap.size := Kd.S_lt hS g (by simp [Value.ownBlock])
 have hS' : Kd.S kHa e W base (fun k => True ∧ ¬ W.heap.size ≤ k) (.slice (some ⟨g, 0, none⟩) n cap) xs := Kd.S_mono (Kd.S_bound hS) (fun k hk => ⟨trivial, by have := hk.2.2.1; omega⟩)
 obtain ⟨oki, c, hcl, hM, hcc, hfr, hoki, hH⟩ := Kd.S_elem hS' z82 (i : Int) (by omega) (by omega)
 rw [Int.toNat_natCast] at hM hcc
 simp only [Int.toNat_natCast] at hfr
 obtain ⟨p, v1, v2, rfl, g1, g2⟩ := kHa_openM hM
 have hsz : kHa.sz = 3 := rfl
 rw [hsz] at hcc hfr
 have hr2 : ∀ k, v2.ownBlock = some k → oki k ∧ ¬ p k := g2.1
 refine ⟨v2, fun k => (oki k ∧ ¬ p k) ∨ W.heap.size ≤ k, hcc 2 v2 rfl, hfr 2, fun k hk => .inr hk, fun k hk => (hoki k (hr2 k hk).1).2, Kd.R_mono g2 (fun _ hk => .inl hk), fun w1 v' ys hg hR => ?_⟩
 have hne : (some g : Option Nat) ≠ v2.ownBlock := fun he => (hoki g (hr2 g he.symm).1).2 rfl
 have hH1 := Kd.H_grown hH hg (fun k hk => (hr2 k hk).1)
 have g1' : Kd.string.R 9 w1 base (fun k => (oki k ∨ W.heap.size ≤ k) ∧ (p k ∧ ¬ W.heap.size ≤ k)) v1 (xs.getD i z82).f1 :=
  Kd.R_mono (Kd.R_grown (Kd.R_bound g1) hg (fun k hk he => (hr2 k he.symm).2 hk.1.2)) (fun k hk => ⟨.inl hk.1.1, hk.1.2, by have := hk.2.2.1; omega⟩)
 have g2' : Kd.string.R 9 w1 base (fun k => (oki k ∨ W.heap.size ≤ k) ∧ ¬ (p k ∧ ¬ W.heap.size ≤ k)) v' ys := Kd.R_mono hR (fun k hk => hk.elim (fun h => ⟨.inl h.1, fun h2 => h.2 h2.1⟩) (fun h => ⟨.inr h, fun h2 => h2.2 h⟩))
 have h3 := Kd.S_seg (okg := fun k => W.heap.size ≤ k) hH1 (by omega) (by omega) (seg := [v']) (j := 2) (by show 2 + 1 ≤ 3; omega)
  (x' := ⟨(xs.getD i z82).f0, (xs.getD i z82).f1, ys⟩) (kHa_mkM ⟨(xs.getD i z82).f0, (xs.getD i z82).f1, ys⟩ (fun k => p k ∧ ¬ W.heap.size ≤ k) g1' g2') (fun k hk => hk) (fun k hk => ⟨trivial, by omega⟩)
 rw [Int.toNat_natCast, hsz] at h3
 exact ⟨cell_grown hg (hcc 2 v2 rfl) hne, by rw [hg.frozen_far _ hlt hne]; exact hfr 2, h3.1, h3.2⟩
end Go.Proofs.Ytahpbpacjciddaa.Pr
end
section
namespace Go.Proofs.Ytahpbpacjciddaa.Pr
open Go.RowKit Go.Proofs.YtahpbpacjciddaaW.PrintWords Go.Proofs.YtahpbpacjciddaaW.PrintLast Go.Proofs.YtahpbpacjciddaaW.PrintMore
attribute [local go_sem] max2_int min2_int max_two min_two max_three min_three max_four min_four   
set_option linter.unusedVariables false
set_option linter.unusedSimpArgs false
def sidingref13_Text.l0 : Nat → List ByteArray → List Int → Int → Option (List Int)
 | 0, _, _, _ => none
 | k + 1, x0, x3, x4 => if x4 < (x0.length : Int) then (if x4 > 0 then (if x3.length < 140737488355328 then ((some (x3 ++ [10] : List Int)).bind fun y243 => (if 0 ≤ x4 then (if y243.length + (rdOf ByteArray.empty x0 x4).size < 140737488355328 then (sidingref13_Text.l0 k x0 (y243 ++ bytesOf (rdOf ByteArray.empty x0 x4)) (wrap64 (x4 + 1))) else (none)) else (none))) else (none)) else (if 0 ≤ x4 then (if x3.length + (rdOf ByteArray.empty x0 x4).size < 140737488355328 then (sidingref13_Text.l0 k x0 (x3 ++ bytesOf (rdOf ByteArray.empty x0 x4)) (wrap64 (x4 + 1))) else (none)) else (none))) else (some x3)
def sidingref13_Text.f (k : Nat) (l0 : List ByteArray) : Option (List Int) := sidingref13_Text.l0 k l0 ([] : List Int) 0
theorem sidingref13_Text.mono_l : ∀ k, (∀ y0 y1 y2, LeO (sidingref13_Text.l0 k y0 y1 y2) (sidingref13_Text.l0 (k + 1) y0 y1 y2))
 | 0 => fun _ _ _ r h => by simp [sidingref13_Text.l0] at h
 | k + 1 => by
  have ih0 := sidingref13_Text.mono_l k
  ·intro y0 y1 y2
   unfold sidingref13_Text.l0
   repeat' first
   | (with_reducible exact ih0 _ _ _)
   | (with_reducible exact LeO.refl _)
   | (with_reducible exact LeO.none _)
   | (with_reducible refine LeO.ite ?_ ?_)
   | (with_reducible refine LeO.bind ?_ (fun _ => ?_))
   | exact ih0 _ _ _
   | exact LeO.none _
   | refine LeO.ite ?_ ?_
   | refine LeO.bind ?_ (fun _ => ?_)
theorem sidingref13_Text.mono : ∀ a0 k, LeO (sidingref13_Text.f k a0) (sidingref13_Text.f (k + 1) a0) := by
 intro a0 k
 have ih0 := sidingref13_Text.mono_l k
 unfold sidingref13_Text.f
 repeat' first
   | (with_reducible exact ih0 _ _ _)
   | (with_reducible exact LeO.refl _)
   | (with_reducible exact LeO.none _)
   | (with_reducible refine LeO.ite ?_ ?_)
   | (with_reducible refine LeO.bind ?_ (fun _ => ?_))
   | exact ih0 _ _ _
   | exact LeO.none _
   | refine LeO.ite ?_ ?_
   | refine LeO.bind ?_ (fun _ => ?_)
set_option maxHeartbeats 8000000 in
set_option maxRecDepth 100000 in
theorem sidingref13_Text.calls (k : Nat) (A0 : Option Addr) (c0 : Nat) (l0 : List ByteArray) (r : List Int) (w : World) (hr0 : Kd.C Kd.string w A0 l0.length l0) (hc0 : l0.length ≤ c0) (h : sidingref13_Text.f k l0 = some r) :
  Calls Try.prog 34 #[.slice A0 l0.length c0] w fun e w' => ∃ v0_ : Value, e = .returned (v0_) ∧ Kd.R (Kd.int .u8) 5 w' w.heap.size (fun _ => True) v0_ r ∧ Below w.heap.size w w' := by
 have HR0 := Aside0.mk hr0
 have HC0 := Aside0.mk hc0
 clear hr0 hc0
 have HB := Aside0.mk (Below.refl w.heap.size w)
 have H : (sidingref13_Text.l0 k l0 ([] : List Int) 0) = some r := h
 clear h
 have H' := Aside0.mk H
 clear H
 go_enter Try.func34, Try.ntmps34
 go_wp2
 go_loopg [3, 4] k (fun kq v3 v4 w' => ∃ (x3_1 : List Int) (x4_1 : Int), v4 = .int .i64 x4_1 ∧ Aside0 (sidingref13_Text.l0 kq l0 x3_1 x4_1 = some r) ∧ Aside0 (kq ≤ k) ∧ Aside0 (Kd.R (Kd.int .u8) 5 w' w.heap.size (fun _ => True) v3 x3_1) ∧ Aside0 (Below w.heap.size w w'))
 case atStart => exact ⟨(([] : List Int)), (0), (by first | rfl | (simp; done) | (simp [*]; done)), H', ⟨Nat.le_refl _⟩, ⟨by first | exact Kd.R_nil _ _ _ _ _ | exact Kd.N_nil _ _ _ _ _ | exact Kd.V_nil _ _ _ _ _ | exact Kd.Q_nil _ _ _ _ _ | exact Kd.S_nil _ _ _ _ _⟩, ⟨by repeat (first | (with_reducible first | exact HB.out | apply below_alloc | apply pw_below_drewN | apply below_drew1) | exact HB.out)⟩⟩
 case round =>
  clear H'
  obtain ⟨x3_1, x4_1, rfl, HA, HK1, HO_3, HB⟩ := hrel
  cases gk with
  | zero => exact absurd HA.out (by simp [sidingref13_Text.l0])
  | succ k1 =>
   have H := HA.out
   clear HA
   simp only [sidingref13_Text.l0] at H
   by_cases c2 : x4_1 < (l0.length : Int)
   ·rw [if_pos c2] at H
    have c2b0 : decide (x4_1 < (l0.length : Int)) = true := decide_eq_true c2
    clear c2
    by_cases c3 : x4_1 > 0
    ·rw [if_pos c3] at H
     have c3b0 : decide (0 < x4_1) = true := decide_eq_true c3
     clear c3
     by_cases c4 : x3_1.length < 140737488355328
     ·rw [if_pos c4] at H
      have LMc4 := Aside0.mk c4
      clear c4
      obtain ⟨y243, hy243⟩ : ∃ y_ : List Int, y_ = (x3_1 ++ [10]) := ⟨_, rfl⟩
      replace H : (if 0 ≤ x4_1 then (if y243.length + (rdOf ByteArray.empty l0 x4_1).size < 140737488355328 then (sidingref13_Text.l0 k1 l0 (y243 ++ bytesOf (rdOf ByteArray.empty l0 x4_1)) (wrap64 (x4_1 + 1))) else (none)) else (none)) = some r := by first | (rw [hy243]; with_reducible exact H) | (have H2_ := (Option.bind_some _ _).symm.trans H; rw [hy243]; with_reducible exact H2_) | (have H2_ := (Option.bind_some _ _).symm.trans H; with_reducible exact H2_) | with_reducible exact H | (rw [hy243]; exact H) | exact H
      have Ny243 := Aside0.mk hy243
      clear hy243
      by_cases c5 : 0 ≤ x4_1
      ·rw [if_pos c5] at H
       have c5b0 : decide (0 ≤ x4_1) = true := decide_eq_true c5
       clear c5
       by_cases c6 : y243.length + (rdOf ByteArray.empty l0 x4_1).size < 140737488355328
       ·rw [if_pos c6] at H
        have LMc6 := Aside0.mk c6
        clear c6
        obtain ⟨y247, hy247⟩ : ∃ y_ : List Int, y_ = (y243 ++ bytesOf (rdOf ByteArray.empty l0 x4_1)) := ⟨_, rfl⟩
        replace H : (sidingref13_Text.l0 k1 l0 y247 (wrap64 (x4_1 + 1))) = some r := by first | (rw [hy247]; with_reducible exact H) | (have H2_ := (Option.bind_some _ _).symm.trans H; rw [hy247]; with_reducible exact H2_) | (have H2_ := (Option.bind_some _ _).symm.trans H; with_reducible exact H2_) | with_reducible exact H | (rw [hy247]; exact H) | exact H
        have Ny247 := Aside0.mk hy247
        clear hy247
        have H' := Aside0.mk H
        clear H
        go_wp2_with (first | ((with_reducible refine gate_builtin (b := .append) (xs := #[.tmp 13, .tmp 14]) rfl ?_); at_builtin; refine Kd.R_append (Kd.int .u8) (w0 := w) w.heap.size rfl (.tmp 13) (.tmp 14) 48 5 (.int .u8 0) 1 rfl Try.underlying48 info5 rfl (by decide) (by omega) u3 x3_1 10 [.int .u8 10] (fun _ => True) (fun _ => False) rfl rfl ?aP (fun _ hk => hk.elim) ?aF ?aO ?aB ?aS ?aL ?_; (case aP => exact rfl); (case aB => exact (by repeat (first | (with_reducible first | exact HB.out | apply below_alloc | apply pw_below_drewN | apply below_drew1) | exact HB.out))); (case aF => exact (fun _ _ => trivial)); (case aO => exact (by (with_reducible repeat (first | apply Kd.R_alloc | apply Kd.R_drewN | apply Kd.R_drew)); exact HO_3.out)); (case aS => exact (below_size (by repeat (first | (with_reducible first | exact HB.out | apply below_alloc | apply pw_below_drewN | apply below_drew1) | exact HB.out)))); (case aL => have := LMc4.out; omega); intro v244 w7 ho hb hg hat; rw [← Ny243.out] at ho; have n0_ := Aside0.mk (hb); have n1_ := Aside0.mk (ho); clear HB; clear HO_3; have HB := n0_; have HO245 := n1_; clear n0_ n1_; clear ho hb hg hat; have p246 : 0 ≤ (x4_1 : Int) := of_decide_eq_true (by first | (with_reducible assumption) | assumption); have q246 : x4_1 < (l0.length : Int) := of_decide_eq_true (by first | (with_reducible assumption) | assumption); obtain ⟨ad246, e246, hx246_0⟩ := Kd.at_string HR0.out x4_1 p246 q246; cases e246; replace hx246_0 := (HB.out.cell (World.block_lt_of_cell? w _ hx246_0)).trans hx246_0; replace p246 := eq_true p246; replace q246 := eq_true q246) | (at_builtin; refine print_append_str (w0 := w) w.heap.size rfl (.tmp 16) _ 48 9 5 rfl Try.underlying48 Try.underlying9 info5 v244 y243 (rdOf ByteArray.empty l0 x4_1) rfl rfl ?aO ?aB ?aS ?aL ?_; (case aB => exact (by repeat (first | (with_reducible first | exact HB.out | apply below_alloc | apply pw_below_drewN | apply below_drew1) | exact HB.out))); (case aO => exact (Kd.own_of_R (by (with_reducible repeat (first | apply Kd.R_alloc | apply Kd.R_drewN | apply Kd.R_drew)); exact HO245.out))); (case aS => exact (below_size (by repeat (first | (with_reducible first | exact HB.out | apply below_alloc | apply pw_below_drewN | apply below_drew1) | exact HB.out)))); (case aL => have := LMc6.out; omega); intro v248 w8 ho0 hb hg; have ho := Kd.R_of_own (h1 := fun _ => rfl) (ok := fun _ => True) ho0 (fun _ _ => trivial); clear ho0; have hat := True.intro; rw [← Ny247.out] at ho; change Kd.R (Kd.int .u8) 5 w8 w.heap.size (fun _ => True) v248 y247 at ho; have n0_ := Aside0.mk (hb); have n1_ := Aside0.mk (ho); clear HB; clear HO245; have HB := n0_; have HO249 := n1_; clear n0_ n1_; clear ho hb hg hat))
        go_roundg k1
        case measure => have := HK1.out; omega
        case rel => exact ⟨(y247), (wrap64 (x4_1 + 1)), (by first | rfl | (simp; done) | (simp [*]; done)), H', ⟨by have := HK1.out; omega⟩, ⟨by (with_reducible repeat (first | apply Kd.R_alloc | apply Kd.R_drewN | apply Kd.R_drew)); exact HO249.out⟩, ⟨by repeat (first | (with_reducible first | exact HB.out | apply below_alloc | apply pw_below_drewN | apply below_drew1) | exact HB.out)⟩⟩
       ·rw [if_neg c6] at H
        exact absurd H (by simp)
      ·rw [if_neg c5] at H
       exact absurd H (by simp)
     ·rw [if_neg c4] at H
      exact absurd H (by simp)
    ·rw [if_neg c3] at H
     have c3b0 : decide (0 < x4_1) = false := decide_eq_false c3
     clear c3
     by_cases c9 : 0 ≤ x4_1
     ·rw [if_pos c9] at H
      have c9b0 : decide (0 ≤ x4_1) = true := decide_eq_true c9
      clear c9
      by_cases c10 : x3_1.length + (rdOf ByteArray.empty l0 x4_1).size < 140737488355328
      ·rw [if_pos c10] at H
       have LMc10 := Aside0.mk c10
       clear c10
       obtain ⟨y251, hy251⟩ : ∃ y_ : List Int, y_ = (x3_1 ++ bytesOf (rdOf ByteArray.empty l0 x4_1)) := ⟨_, rfl⟩
       replace H : (sidingref13_Text.l0 k1 l0 y251 (wrap64 (x4_1 + 1))) = some r := by first | (rw [hy251]; with_reducible exact H) | (have H2_ := (Option.bind_some _ _).symm.trans H; rw [hy251]; with_reducible exact H2_) | (have H2_ := (Option.bind_some _ _).symm.trans H; with_reducible exact H2_) | with_reducible exact H | (rw [hy251]; exact H) | exact H
       have Ny251 := Aside0.mk hy251
       clear hy251
       have H' := Aside0.mk H
       clear H
       have p250 : 0 ≤ (x4_1 : Int) := of_decide_eq_true (by first | (with_reducible assumption) | assumption)
       have q250 : x4_1 < (l0.length : Int) := of_decide_eq_true (by first | (with_reducible assumption) | assumption)
       obtain ⟨ad250, e250, hx250_0⟩ := Kd.at_string HR0.out x4_1 p250 q250
       cases e250
       replace hx250_0 := (HB.out.cell (World.block_lt_of_cell? w _ hx250_0)).trans hx250_0
       replace p250 := eq_true p250
       replace q250 := eq_true q250
       go_wp2_with (first | (at_builtin; refine print_append_str (w0 := w) w.heap.size rfl (.tmp 16) _ 48 9 5 rfl Try.underlying48 Try.underlying9 info5 u3 x3_1 (rdOf ByteArray.empty l0 x4_1) rfl rfl ?aO ?aB ?aS ?aL ?_; (case aB => exact (by repeat (first | (with_reducible first | exact HB.out | apply below_alloc | apply pw_below_drewN | apply below_drew1) | exact HB.out))); (case aO => exact (Kd.own_of_R (by (with_reducible repeat (first | apply Kd.R_alloc | apply Kd.R_drewN | apply Kd.R_drew)); exact HO_3.out))); (case aS => exact (below_size (by repeat (first | (with_reducible first | exact HB.out | apply below_alloc | apply pw_below_drewN | apply below_drew1) | exact HB.out)))); (case aL => have := LMc10.out; omega); intro v252 w11 ho0 hb hg; have ho := Kd.R_of_own (h1 := fun _ => rfl) (ok := fun _ => True) ho0 (fun _ _ => trivial); clear ho0; have hat := True.intro; rw [← Ny251.out] at ho; change Kd.R (Kd.int .u8) 5 w11 w.heap.size (fun _ => True) v252 y251 at ho; have n0_ := Aside0.mk (hb); have n1_ := Aside0.mk (ho); clear HB; clear HO_3; have HB := n0_; have HO253 := n1_; clear n0_ n1_; clear ho hb hg hat))
       go_roundg k1
       case measure => have := HK1.out; omega
       case rel => exact ⟨(y251), (wrap64 (x4_1 + 1)), (by first | rfl | (simp; done) | (simp [*]; done)), H', ⟨by have := HK1.out; omega⟩, ⟨by (with_reducible repeat (first | apply Kd.R_alloc | apply Kd.R_drewN | apply Kd.R_drew)); exact HO253.out⟩, ⟨by repeat (first | (with_reducible first | exact HB.out | apply below_alloc | apply pw_below_drewN | apply below_drew1) | exact HB.out)⟩⟩
      ·rw [if_neg c10] at H
       exact absurd H (by simp)
     ·rw [if_neg c9] at H
      exact absurd H (by simp)
   ·rw [if_neg c2] at H
    have c2b0 : decide (x4_1 < (l0.length : Int)) = false := decide_eq_false c2
    clear c2
    obtain rfl := Option.some.inj H
    go_wp2
    go_ret
    exact ⟨_, by first | rfl | (simp [errW_none, errW_some] <;> rfl) | (simp [*, errW_none, errW_some] <;> rfl), by (with_reducible repeat (first | apply Kd.R_alloc | apply Kd.R_drewN | apply Kd.R_drew)); exact HO_3.out, by repeat (first | (with_reducible first | exact HB.out | apply below_alloc | apply pw_below_drewN | apply below_drew1) | exact HB.out)⟩
end Go.Proofs.Ytahpbpacjciddaa.Pr
end
section
namespace Go.Proofs.Ytahpbpacjciddaa.Pr
open Go.RowKit Go.Proofs.YtahpbpacjciddaaW.PrintWords Go.Proofs.YtahpbpacjciddaaW.PrintLast Go.Proofs.YtahpbpacjciddaaW.PrintMore
attribute [local go_sem] max2_int min2_int max_two min_two max_three min_three max_four min_four   
set_option linter.unusedVariables false
set_option linter.unusedSimpArgs false
def sidingref13_Parts.l0 : Nat → List Int → List ByteArray → Int → Int → Option (List ByteArray)
 | 0, _, _, _, _ => none
 | k + 1, x0, x3, x4, x5 => if x5 < (x0.length : Int) then (if 0 ≤ x5 then (if (rd x0 x5) = 10 then (if 0 ≤ x4 then (if x4 ≤ x5 then (if x5 ≤ (x0.length : Int) then (if 0 ≤ (wrap64 ((x3.length : Int) - 1)) then (if (wrap64 ((x3.length : Int) - 1)) < (x3.length : Int) then ((some (x3.set ((wrap64 ((x3.length : Int) - 1)) : Int).toNat (strOfNums ((x0.take (x5 : Int).toNat).drop (x4 : Int).toNat)) : List ByteArray)).bind fun y406 => (if y406.length < 8796093022208 then (sidingref13_Parts.l0 k x0 (y406 ++ [(⟨#[]⟩ : ByteArray)]) (wrap64 (x5 + 1)) (wrap64 (x5 + 1))) else (none))) else (none)) else (none)) else (none)) else (none)) else (none)) else (sidingref13_Parts.l0 k x0 x3 x4 (wrap64 (x5 + 1)))) else (none)) else (if 0 ≤ x4 then (if x4 ≤ (x0.length : Int) then (if 0 ≤ (wrap64 ((x3.length : Int) - 1)) then (if (wrap64 ((x3.length : Int) - 1)) < (x3.length : Int) then (some (x3.set ((wrap64 ((x3.length : Int) - 1)) : Int).toNat (strOfNums (x0.drop (x4 : Int).toNat)))) else (none)) else (none)) else (none)) else (none))
def sidingref13_Parts.f (k : Nat) (l0 : List Int) : Option (List ByteArray) := sidingref13_Parts.l0 k l0 (([(⟨#[]⟩ : ByteArray)] : List ByteArray)) 0 0
theorem sidingref13_Parts.mono_l : ∀ k, (∀ y0 y1 y2 y3, LeO (sidingref13_Parts.l0 k y0 y1 y2 y3) (sidingref13_Parts.l0 (k + 1) y0 y1 y2 y3))
 | 0 => fun _ _ _ _ r h => by simp [sidingref13_Parts.l0] at h
 | k + 1 => by
  have ih0 := sidingref13_Parts.mono_l k
  ·intro y0 y1 y2 y3
   unfold sidingref13_Parts.l0
   repeat' first
   | (with_reducible exact ih0 _ _ _ _)
   | (with_reducible exact LeO.refl _)
   | (with_reducible exact LeO.none _)
   | (with_reducible refine LeO.ite ?_ ?_)
   | (with_reducible refine LeO.bind ?_ (fun _ => ?_))
   | exact ih0 _ _ _ _
   | exact LeO.none _
   | refine LeO.ite ?_ ?_
   | refine LeO.bind ?_ (fun _ => ?_)
theorem sidingref13_Parts.mono : ∀ a0 k, LeO (sidingref13_Parts.f k a0) (sidingref13_Parts.f (k + 1) a0) := by
 intro a0 k
 have ih0 := sidingref13_Parts.mono_l k
 unfold sidingref13_Parts.f
 repeat' first
   | (with_reducible exact ih0 _ _ _ _)
   | (with_reducible exact LeO.refl _)
   | (with_reducible exact LeO.none _)
   | (with_reducible refine LeO.ite ?_ ?_)
   | (with_reducible refine LeO.bind ?_ (fun _ => ?_))
   | exact ih0 _ _ _ _
   | exact LeO.none _
   | refine LeO.ite ?_ ?_
   | refine LeO.bind ?_ (fun _ => ?_)
set_option maxHeartbeats 8000000 in
set_option maxRecDepth 100000 in
theorem sidingref13_Parts.calls (k : Nat) (A0 : Option Addr) (c0 : Nat) (l0 : List Int) (r : List ByteArray) (w : World) (hr0 : Kd.C (Kd.int .u8) w A0 l0.length l0) (hc0 : l0.length ≤ c0) (h : sidingref13_Parts.f k l0 = some r) :
  Calls Try.prog 45 #[.slice A0 l0.length c0] w fun e w' => ∃ v0_ : Value, e = .returned (v0_) ∧ Kd.R Kd.string 9 w' w.heap.size (fun _ => True) v0_ r ∧ Below w.heap.size w w' := by
 have HR0 := Aside0.mk hr0
 have HC0 := Aside0.mk hc0
 clear hr0 hc0
 have HB := Aside0.mk (Below.refl w.heap.size w)
 have H : (sidingref13_Parts.l0 k l0 (([(⟨#[]⟩ : ByteArray)] : List ByteArray)) 0 0) = some r := h
 clear h
 obtain ⟨y401, hy401⟩ : ∃ y_ : List ByteArray, y_ = (([(⟨#[]⟩ : ByteArray)] : List ByteArray)) := ⟨_, rfl⟩
 replace H : (sidingref13_Parts.l0 k l0 y401 0 0) = some r := by first | (rw [hy401]; with_reducible exact H) | (have H2_ := (Option.bind_some _ _).symm.trans H; rw [hy401]; with_reducible exact H2_) | (have H2_ := (Option.bind_some _ _).symm.trans H; with_reducible exact H2_) | with_reducible exact H | (rw [hy401]; exact H) | exact H
 have Ny401 := Aside0.mk hy401
 clear hy401
 have H' := Aside0.mk H
 clear H
 go_enter Try.func45, Try.ntmps45
 go_wp2_with (first | ((with_reducible refine gate_dst (N := 6) rfl ?_); refine Kd.R_lit Kd.string _ 9 ?hg (N := 6) ?hd (xs := ([(⟨#[]⟩ : ByteArray)] : List ByteArray)) (inner := [.string (⟨#[]⟩ : ByteArray)]) (ok := fun _ => True) (okp := fun _ => True) ?hr ?hp (fun _ hk => hk) trivial (Below.refl _ _) (Nat.le_refl _) (by simp) ?_; (case hd => rfl); (case hg => rfl); (case hr => first | (go_simp; done) | (go_simp; rfl)); (case hp => exact (Reps.one (show Kd.M Kd.string _ _ _ (⟨#[]⟩ : ByteArray) [.string (⟨#[]⟩ : ByteArray)] from rfl) (Reps.none _ _))); intro v402 w2 ho3 hb hg_ hnew_; clear hg_ hnew_; (first | rw [← Ny401.out] at ho3 | (simp only [Int.reduceToNat] at ho3; rw [← Ny401.out] at ho3)); have n0_ := Aside0.mk (Kd.R_lower ho3 (below_size (by repeat (first | (with_reducible first | exact HB.out | apply below_alloc | apply pw_below_drewN | apply below_drew1) | exact HB.out)))); have n1_ := Aside0.mk (below_step (by repeat (first | (with_reducible first | exact HB.out | apply below_alloc | apply pw_below_drewN | apply below_drew1) | exact HB.out)) hb); clear HB; have HO403 := n0_; have HB := n1_; clear n0_ n1_; clear hb ho3))
 go_loopg [3, 4, 5] k (fun kq v3 v4 v5 w' => ∃ (x3_1 : List ByteArray) (x4_1 : Int) (x5_1 : Int), v4 = .int .i64 x4_1 ∧ v5 = .int .i64 x5_1 ∧ Aside0 (sidingref13_Parts.l0 kq l0 x3_1 x4_1 x5_1 = some r) ∧ Aside0 (kq ≤ k) ∧ Aside0 (Kd.R Kd.string 9 w' w.heap.size (fun _ => True) v3 x3_1) ∧ Aside0 (Below w.heap.size w w'))
 case atStart => exact ⟨(y401), (0), (0), (by first | rfl | (simp; done) | (simp [*]; done)), (by first | rfl | (simp; done) | (simp [*]; done)), H', ⟨Nat.le_refl _⟩, ⟨by (with_reducible repeat (first | apply Kd.R_alloc | apply Kd.R_drewN | apply Kd.R_drew)); exact HO403.out⟩, ⟨by repeat (first | (with_reducible first | exact HB.out | apply below_alloc | apply pw_below_drewN | apply below_drew1) | exact HB.out)⟩⟩
 case round =>
  clear H'
  try clear p2
  obtain ⟨x3_1, x4_1, x5_1, rfl, rfl, HA, HK1, HO_3, HB⟩ := hrel
  cases gk with
  | zero => exact absurd HA.out (by simp [sidingref13_Parts.l0])
  | succ k1 =>
   have H := HA.out
   clear HA
   simp only [sidingref13_Parts.l0] at H
   by_cases c4 : x5_1 < (l0.length : Int)
   ·rw [if_pos c4] at H
    have c4b0 : decide (x5_1 < (l0.length : Int)) = true := decide_eq_true c4
    clear c4
    by_cases c5 : 0 ≤ x5_1
    ·rw [if_pos c5] at H
     have c5b0 : decide (0 ≤ x5_1) = true := decide_eq_true c5
     clear c5
     by_cases c6 : (rd l0 x5_1) = 10
     ·rw [if_pos c6] at H
      have c6b0 : ((rd l0 x5_1) == 10) = true := beq_iff_eq.mpr c6
      have c6b1 : ((rd l0 x5_1) != 10) = false := bne_eq_false_iff_eq.mpr c6
      clear c6
      by_cases c7 : 0 ≤ x4_1
      ·rw [if_pos c7] at H
       have c7b0 := eq_true c7
       have c7b1 : decide (0 ≤ x4_1) = true := decide_eq_true c7
       clear c7
       by_cases c8 : x4_1 ≤ x5_1
       ·rw [if_pos c8] at H
        have c8b0 := eq_true c8
        have c8b1 : decide (x4_1 ≤ x5_1) = true := decide_eq_true c8
        clear c8
        by_cases c9 : x5_1 ≤ (l0.length : Int)
        ·rw [if_pos c9] at H
         have c9b0 := eq_true c9
         have c9b1 : decide (x5_1 ≤ (l0.length : Int)) = true := decide_eq_true c9
         (try have c9m := Aside0.mk (Nat.min_eq_left (Int.toNat_le.2 c9)))
         clear c9
         obtain ⟨ji10, hji10⟩ : ∃ j_ : Int, (wrap64 ((x3_1.length : Int) - 1)) = j_ := ⟨_, rfl⟩
         replace H : (if 0 ≤ (ji10) then (if (ji10) < (x3_1.length : Int) then ((some (x3_1.set ((ji10) : Int).toNat (strOfNums ((l0.take (x5_1 : Int).toNat).drop (x4_1 : Int).toNat)) : List ByteArray)).bind fun y406 => (if y406.length < 8796093022208 then (sidingref13_Parts.l0 k1 l0 (y406 ++ [(⟨#[]⟩ : ByteArray)]) (wrap64 (x5_1 + 1)) (wrap64 (x5_1 + 1))) else (none))) else (none)) else (none)) = some r := by first | (rw [hji10] at H; exact H) | (simp only [hji10] at H ⊢; exact H)
         have hji10w : (IntKind.i64.wrap ((x3_1.length : Int) - 1)) = ji10 := (i64_w _).trans hji10
         by_cases c11 : 0 ≤ (ji10)
         ·rw [if_pos c11] at H
          have c11b0 : decide (0 ≤ (ji10)) = true := decide_eq_true c11
          clear c11
          by_cases c12 : (ji10) < (x3_1.length : Int)
          ·rw [if_pos c12] at H
           have c12b0 : decide ((ji10) < (x3_1.length : Int)) = true := decide_eq_true c12
           clear c12
           obtain ⟨y406, hy406⟩ : ∃ y_ : List ByteArray, y_ = (x3_1.set ((ji10) : Int).toNat (strOfNums ((l0.take (x5_1 : Int).toNat).drop (x4_1 : Int).toNat))) := ⟨_, rfl⟩
           replace H : (if y406.length < 8796093022208 then (sidingref13_Parts.l0 k1 l0 (y406 ++ [(⟨#[]⟩ : ByteArray)]) (wrap64 (x5_1 + 1)) (wrap64 (x5_1 + 1))) else (none)) = some r := by first | (rw [hy406]; with_reducible exact H) | (have H2_ := (Option.bind_some _ _).symm.trans H; rw [hy406]; with_reducible exact H2_) | (have H2_ := (Option.bind_some _ _).symm.trans H; with_reducible exact H2_) | with_reducible exact H | (rw [hy406]; exact H) | exact H
           have Ny406 := Aside0.mk hy406
           clear hy406
           by_cases c14 : y406.length < 8796093022208
           ·rw [if_pos c14] at H
            have LMc14 := Aside0.mk c14
            clear c14
            obtain ⟨y407, hy407⟩ : ∃ y_ : List ByteArray, y_ = (y406 ++ [(⟨#[]⟩ : ByteArray)]) := ⟨_, rfl⟩
            replace H : (sidingref13_Parts.l0 k1 l0 y407 (wrap64 (x5_1 + 1)) (wrap64 (x5_1 + 1))) = some r := by first | (rw [hy407]; with_reducible exact H) | (have H2_ := (Option.bind_some _ _).symm.trans H; rw [hy407]; with_reducible exact H2_) | (have H2_ := (Option.bind_some _ _).symm.trans H; with_reducible exact H2_) | with_reducible exact H | (rw [hy407]; exact H) | exact H
            have Ny407 := Aside0.mk hy407
            clear hy407
            have H' := Aside0.mk H
            clear H
            have p404 : 0 ≤ (x5_1 : Int) := of_decide_eq_true (by first | (with_reducible assumption) | assumption)
            have q404 : x5_1 < (l0.length : Int) := of_decide_eq_true (by first | (with_reducible assumption) | assumption)
            obtain ⟨ad404, e404, hx404_0⟩ := Kd.at_int HR0.out x5_1 p404 q404
            cases e404
            replace hx404_0 := (HB.out.cell (World.block_lt_of_cell? w _ hx404_0)).trans hx404_0
            replace p404 := eq_true p404
            replace q404 := eq_true q404
            obtain ⟨Ao15, co15, eo15⟩ := Kd.R_slice HO_3.out
            subst eo15
            obtain ⟨i016, hi016, _, hsz16, _⟩ := info_parts info5
            obtain ⟨A16, hcut16, hA16, hC16⟩ := print_mid_of (P := Try.prog) (Value.int .u8) 0 48 5 .i64 .i64 Try.underlying48 hi016 hsz16 (some ad404) c0 l0 x4_1 x5_1 (of_decide_eq_true (by first | (with_reducible assumption) | assumption)) (by first | omega | exact of_decide_eq_true (by first | (with_reducible assumption) | assumption)) (of_decide_eq_true (by first | (with_reducible assumption) | assumption)) HC0.out
            have HR405 := Aside0.mk (Kd.C_of_reads (h1 := fun _ => rfl) (hA16 _ (Kd.reads_of_C HR0.out)))
            have HC405 := Aside0.mk hC16
            clear hA16 hC16 hi016 hsz16
            have hcv17 := Kd.C_string (P := Try.prog) (A := A16) (c := (c0 - x4_1.toNat)) Try.underlying48 Try.underlying5 Try.underlying9 (Kd.C_below HR405.out HB.out)
            (try (have hcv17b := hcv17; rw [show (List.drop (x4_1 : Int).toNat (List.take (x5_1 : Int).toNat l0)).length = (x5_1 : Int).toNat - (x4_1 : Int).toNat from by rw [List.length_drop, List.length_take, Nat.min_eq_left (by have h_ : (x5_1 : Int) ≤ (l0.length : Int) := of_decide_eq_true (by first | (with_reducible assumption) | assumption); omega)]] at hcv17b))
            have p13 : 0 ≤ ((ji10) : Int) := of_decide_eq_true (by first | (with_reducible assumption) | assumption)
            have q13 : ((ji10) : Int) < ((x3_1.length : Int) : Int) := of_decide_eq_true (by first | (with_reducible assumption) | assumption)
            obtain ⟨go13, co13, eo13, gb13, gl13, cl13, HG13⟩ := Kd.R_form HO_3.out (by omega)
            (first | cases eo13 | (injection eo13 with ea_ en_ ec_; (first | subst ea_ | (injection ea_ with ea_; subst ea_)); subst ec_; clear en_))
            have GB13 := Aside0.mk gb13
            have GG13 := Aside0.mk HG13
            clear gb13 gl13 HG13
            obtain ⟨hx13_0, hf13_0⟩ := Kd.R_celln (⟨#[]⟩ : ByteArray) HO_3.out ((ji10) : Int) p13 q13
            replace p13 := eq_true p13
            replace q13 := eq_true q13
            have HP18 := Kd.R_putg HO_3.out ((ji10) : Int) (strOfNums ((l0.take (x5_1 : Int).toNat).drop (x4_1 : Int).toNat))
            go_wp2_with (first | ((with_reducible refine gate_store (t := 9) (p := 27) rfl ?_); refine store_event (t := 9) (p := 27) (v := ?vo_w19) (w1 := (wr.setCell ⟨go13, ((ji10) : Int).toNat, none⟩ (.string (strOfNums ((l0.take (x5_1 : Int).toNat).drop (x4_1 : Int).toNat))))) ?hg ?ho ?hn ?hr ?_; (case ho => rfl); (case hg => rfl); (case hn => rfl); (case hr => first | (go_simp; done) | (go_simp; rfl)); intro w19 hw; have hg : wr.grownBy w19 (some go13) := (by rw [hw]; exact HP18.2); have hp_ : Kd.R Kd.string 9 w19 w.heap.size (fun _ => True) (.slice (some ⟨go13, 0, none⟩) x3_1.length co15) y406 := (by rw [hw, Ny406.out]; exact HP18.1); clear HP18; have n0_ := Aside0.mk (hp_); have n1_ := Aside0.mk ((by rw [hw]; exact below_set (HB.out) GB13.out : Below w.heap.size w w19)); clear HO_3; clear HB; have HO_3 := n0_; have HB := n1_; clear n0_ n1_; clear hg hw hp_) | ((with_reducible refine gate_builtin (b := .append) (xs := #[.tmp 28, .tmp 29]) rfl ?_); at_builtin; refine Kd.R_append Kd.string (w0 := w) w.heap.size rfl (.tmp 28) (.tmp 29) 22 9 (.string ⟨#[]⟩) 16 rfl Try.underlying22 info9 rfl (by decide) (by omega) (.slice (some ⟨go13, 0, none⟩) x3_1.length co15) y406 (⟨#[]⟩ : ByteArray) [.string (⟨#[]⟩ : ByteArray)] (fun _ => True) (fun _ => False) rfl rfl ?aP (fun _ hk => hk.elim) ?aF ?aO ?aB ?aS ?aL ?_; (case aP => exact rfl); (case aB => exact (by repeat (first | (with_reducible first | exact HB.out | apply below_alloc | apply pw_below_drewN | apply below_drew1) | exact HB.out))); (case aF => exact (fun _ _ => trivial)); (case aO => exact (by (with_reducible repeat (first | apply Kd.R_alloc | apply Kd.R_drewN | apply Kd.R_drew)); exact HO_3.out)); (case aS => exact (below_size (by repeat (first | (with_reducible first | exact HB.out | apply below_alloc | apply pw_below_drewN | apply below_drew1) | exact HB.out)))); (case aL => have := LMc14.out; omega); intro v408 w20 ho hb hg hat; rw [← Ny407.out] at ho; have n0_ := Aside0.mk (hb); have n1_ := Aside0.mk (ho); clear HB; clear HO_3; have HB := n0_; have HO409 := n1_; clear n0_ n1_; clear ho hb hg hat))
            go_roundg k1
            case measure => have := HK1.out; omega
            case rel => exact ⟨(y407), (wrap64 (x5_1 + 1)), (wrap64 (x5_1 + 1)), (by first | rfl | (simp; done) | (simp [*]; done)), (by first | rfl | (simp; done) | (simp [*]; done)), H', ⟨by have := HK1.out; omega⟩, ⟨by (with_reducible repeat (first | apply Kd.R_alloc | apply Kd.R_drewN | apply Kd.R_drew)); exact HO409.out⟩, ⟨by repeat (first | (with_reducible first | exact HB.out | apply below_alloc | apply pw_below_drewN | apply below_drew1) | exact HB.out)⟩⟩
           ·rw [if_neg c14] at H
            exact absurd H (by simp)
          ·rw [if_neg c12] at H
           exact absurd H (by simp)
         ·rw [if_neg c11] at H
          exact absurd H (by simp)
        ·rw [if_neg c9] at H
         exact absurd H (by simp)
       ·rw [if_neg c8] at H
        exact absurd H (by simp)
      ·rw [if_neg c7] at H
       exact absurd H (by simp)
     ·rw [if_neg c6] at H
      have c6b0 : ((rd l0 x5_1) == 10) = false := beq_eq_false_iff_ne.mpr c6
      have c6b1 : ((rd l0 x5_1) != 10) = true := bne_iff_ne.mpr c6
      have H' := Aside0.mk H
      clear H
      have p404 : 0 ≤ (x5_1 : Int) := of_decide_eq_true (by first | (with_reducible assumption) | assumption)
      have q404 : x5_1 < (l0.length : Int) := of_decide_eq_true (by first | (with_reducible assumption) | assumption)
      obtain ⟨ad404, e404, hx404_0⟩ := Kd.at_int HR0.out x5_1 p404 q404
      cases e404
      replace hx404_0 := (HB.out.cell (World.block_lt_of_cell? w _ hx404_0)).trans hx404_0
      replace p404 := eq_true p404
      replace q404 := eq_true q404
      go_wp2
      go_roundg k1
      case measure => have := HK1.out; omega
      case rel => exact ⟨(x3_1), (x4_1), (wrap64 (x5_1 + 1)), (by first | rfl | (simp; done) | (simp [*]; done)), (by first | rfl | (simp; done) | (simp [*]; done)), H', ⟨by have := HK1.out; omega⟩, ⟨by (with_reducible repeat (first | apply Kd.R_alloc | apply Kd.R_drewN | apply Kd.R_drew)); exact HO_3.out⟩, ⟨by repeat (first | (with_reducible first | exact HB.out | apply below_alloc | apply pw_below_drewN | apply below_drew1) | exact HB.out)⟩⟩
    ·rw [if_neg c5] at H
     exact absurd H (by simp)
   ·rw [if_neg c4] at H
    have c4b0 : decide (x5_1 < (l0.length : Int)) = false := decide_eq_false c4
    clear c4
    by_cases c21 : 0 ≤ x4_1
    ·rw [if_pos c21] at H
     have c21b0 := eq_true c21
     have c21b1 : decide (0 ≤ x4_1) = true := decide_eq_true c21
     clear c21
     by_cases c22 : x4_1 ≤ (l0.length : Int)
     ·rw [if_pos c22] at H
      have c22b0 := eq_true c22
      have c22b1 : decide (x4_1 ≤ (l0.length : Int)) = true := decide_eq_true c22
      (try have c22m := Aside0.mk (Nat.min_eq_left (Int.toNat_le.2 c22)))
      clear c22
      obtain ⟨ji23, hji23⟩ : ∃ j_ : Int, (wrap64 ((x3_1.length : Int) - 1)) = j_ := ⟨_, rfl⟩
      replace H : (if 0 ≤ (ji23) then (if (ji23) < (x3_1.length : Int) then (some (x3_1.set ((ji23) : Int).toNat (strOfNums (l0.drop (x4_1 : Int).toNat)))) else (none)) else (none)) = some r := by first | (rw [hji23] at H; exact H) | (simp only [hji23] at H ⊢; exact H)
      have hji23w : (IntKind.i64.wrap ((x3_1.length : Int) - 1)) = ji23 := (i64_w _).trans hji23
      by_cases c24 : 0 ≤ (ji23)
      ·rw [if_pos c24] at H
       have c24b0 : decide (0 ≤ (ji23)) = true := decide_eq_true c24
       clear c24
       by_cases c25 : (ji23) < (x3_1.length : Int)
       ·rw [if_pos c25] at H
        have c25b0 : decide ((ji23) < (x3_1.length : Int)) = true := decide_eq_true c25
        clear c25
        obtain ⟨y411, hy411⟩ : ∃ y_ : List ByteArray, y_ = (x3_1.set ((ji23) : Int).toNat (strOfNums (l0.drop (x4_1 : Int).toNat))) := ⟨_, rfl⟩
        replace H : (some y411) = some r := by first | (rw [hy411]; with_reducible exact H) | (have H2_ := (Option.bind_some _ _).symm.trans H; rw [hy411]; with_reducible exact H2_) | (have H2_ := (Option.bind_some _ _).symm.trans H; with_reducible exact H2_) | with_reducible exact H | (rw [hy411]; exact H) | exact H
        have Ny411 := Aside0.mk hy411
        clear hy411
        obtain rfl := Option.some.inj H
        obtain ⟨Ao27, co27, eo27⟩ := Kd.R_slice HO_3.out
        subst eo27
        obtain ⟨i028, hi028, _, hsz28, _⟩ := info_parts info5
        obtain ⟨A28, hcut28, hA28, hC28⟩ := print_drop_of (P := Try.prog) (Value.int .u8) 0 48 5 .i64 Try.underlying48 hi028 hsz28 A0 c0 l0 x4_1 (of_decide_eq_true (by first | (with_reducible assumption) | assumption)) (of_decide_eq_true (by first | (with_reducible assumption) | assumption)) HC0.out
        have HR410 := Aside0.mk (Kd.C_of_reads (h1 := fun _ => rfl) (hA28 _ (Kd.reads_of_C HR0.out)))
        have HC410 := Aside0.mk hC28
        clear hA28 hC28 hi028 hsz28
        have hcv29 := Kd.C_string (P := Try.prog) (A := A28) (c := (c0 - x4_1.toNat)) Try.underlying48 Try.underlying5 Try.underlying9 (Kd.C_below HR410.out HB.out)
        (try (have hcv29b := hcv29; rw [show (List.drop (x4_1 : Int).toNat l0).length = l0.length - (x4_1 : Int).toNat from List.length_drop] at hcv29b))
        have p26 : 0 ≤ ((ji23) : Int) := of_decide_eq_true (by first | (with_reducible assumption) | assumption)
        have q26 : ((ji23) : Int) < ((x3_1.length : Int) : Int) := of_decide_eq_true (by first | (with_reducible assumption) | assumption)
        obtain ⟨go26, co26, eo26, gb26, gl26, cl26, HG26⟩ := Kd.R_form HO_3.out (by omega)
        (first | cases eo26 | (injection eo26 with ea_ en_ ec_; (first | subst ea_ | (injection ea_ with ea_; subst ea_)); subst ec_; clear en_))
        have GB26 := Aside0.mk gb26
        have GG26 := Aside0.mk HG26
        clear gb26 gl26 HG26
        obtain ⟨hx26_0, hf26_0⟩ := Kd.R_celln (⟨#[]⟩ : ByteArray) HO_3.out ((ji23) : Int) p26 q26
        replace p26 := eq_true p26
        replace q26 := eq_true q26
        have HP30 := Kd.R_putg HO_3.out ((ji23) : Int) (strOfNums (l0.drop (x4_1 : Int).toNat))
        go_wp2_with (first | ((with_reducible refine gate_store (t := 9) (p := 41) rfl ?_); refine store_event (t := 9) (p := 41) (v := ?vo_w31) (w1 := (wr.setCell ⟨go26, ((ji23) : Int).toNat, none⟩ (.string (strOfNums (l0.drop (x4_1 : Int).toNat))))) ?hg ?ho ?hn ?hr ?_; (case ho => rfl); (case hg => rfl); (case hn => rfl); (case hr => first | (go_simp; done) | (go_simp; rfl)); intro w31 hw; have hg : wr.grownBy w31 (some go26) := (by rw [hw]; exact HP30.2); have hp_ : Kd.R Kd.string 9 w31 w.heap.size (fun _ => True) (.slice (some ⟨go26, 0, none⟩) x3_1.length co27) y411 := (by rw [hw, Ny411.out]; exact HP30.1); clear HP30; have n0_ := Aside0.mk (hp_); have n1_ := Aside0.mk ((by rw [hw]; exact below_set (HB.out) GB26.out : Below w.heap.size w w31)); clear HO_3; clear HB; have HO_3 := n0_; have HB := n1_; clear n0_ n1_; clear hg hw hp_))
        go_ret
        exact ⟨_, by first | rfl | (simp [errW_none, errW_some] <;> rfl) | (simp only [← hji23]; first | rfl | (simp [errW_none, errW_some] <;> rfl)) | (simp [*, errW_none, errW_some] <;> rfl), by (with_reducible repeat (first | apply Kd.R_alloc | apply Kd.R_drewN | apply Kd.R_drew)); exact HO_3.out, by repeat (first | (with_reducible first | exact HB.out | apply below_alloc | apply pw_below_drewN | apply below_drew1) | exact HB.out)⟩
       ·rw [if_neg c25] at H
        exact absurd H (by simp)
      ·rw [if_neg c24] at H
       exact absurd H (by simp)
     ·rw [if_neg c22] at H
      exact absurd H (by simp)
    ·rw [if_neg c21] at H
     exact absurd H (by simp)
end Go.Proofs.Ytahpbpacjciddaa.Pr
end
section
namespace Go.Proofs.Ytahpbpacjciddaa.Pr
open Go.RowKit Go.Proofs.YtahpbpacjciddaaW.PrintWords Go.Proofs.YtahpbpacjciddaaW.PrintLast Go.Proofs.YtahpbpacjciddaaW.PrintMore
set_option linter.unusedVariables false
set_option linter.unusedSimpArgs false
def partsOf : List Int → List Int → List (List Int)
 | cur, [] => [cur]
 | cur, b :: l => if b = 10 then cur :: partsOf [] l else partsOf (cur ++ [b]) l
theorem partsOf_length (l : List Int) : ∀ cur, (partsOf cur l).length = l.count 10 + 1 := by
 induction l with
 | nil => intro cur; rfl
 | cons b l ih =>
  intro cur
  by_cases h : b = 10
  ·subst h
   simp [partsOf, ih]
  ·simp [partsOf, ih, h]
theorem partsOf_ne (l cur : List Int) : partsOf cur l ≠ [] := by
 have := partsOf_length l cur
 intro h
 rw [h] at this
 simp at this
theorem parts_loop (l : List Int) (hl : l.length ≤ 8796093000000) : ∀ (d i f : Nat) (done : List ByteArray) (z : ByteArray), i + d = l.length → f ≤ i → done.length ≤ i →
  Ev (fun k => sidingref13_Parts.l0 k l (done ++ [z]) (f : Int) (i : Int)) (done ++ (partsOf ((l.take i).drop f) (l.drop i)).map strOfNums) := by
 intro d
 induction d with
 | zero =>
  intro i f done z hi hf hd
  obtain rfl : i = l.length := by omega
  refine Ev.step (fun k => by rw [sidingref13_Parts.l0]) ?_
  refine Ev.neg (by omega) (Ev.pos (by omega) (Ev.pos (by omega) ?_))
  have hlen : (done ++ [z]).length = done.length + 1 := by simp
  rw [hlen, w64 (by omega)]
  refine Ev.pos (by omega) (Ev.pos (by omega) (Ev.rt ?_))
  have e : ((((done.length + 1 : Nat) : Int) - 1).toNat) = done.length := by omega
  rw [e, List.set_append_right _ _ (Nat.le_refl _)]
  simp [partsOf]
 | succ d ih =>
  intro i f done z hi hf hd
  have hlt : i < l.length := by omega
  refine Ev.step (fun k => by rw [sidingref13_Parts.l0]) ?_
  refine Ev.pos (by omega) (Ev.pos (by omega) ?_)
  rw [rd_at l i hlt, w64 (x := (i : Int) + 1) (by omega)]
  have ht : (l.take (i + 1)).drop f = (l.take i).drop f ++ [l[i]] := by
   rw [take_succ_at l i hlt, List.drop_append_of_le_length (by rw [List.length_take]; omega)]
  by_cases hb : l[i] = 10
  ·refine Ev.pos hb ?_
   refine Ev.pos (by omega) (Ev.pos (by omega) (Ev.pos (by omega) ?_))
   have hlen : (done ++ [z]).length = done.length + 1 := by simp
   rw [hlen, w64 (x := ((done.length + 1 : Nat) : Int) - 1) (by omega)]
   refine Ev.pos (by omega) (Ev.pos (by omega) (Ev.bs ?_))
   have e : ((((done.length + 1 : Nat) : Int) - 1).toNat) = done.length := by omega
   rw [e, List.set_append_right _ _ (Nat.le_refl _)]
   refine Ev.pos (by simp; omega) ?_
   have h := ih (i + 1) (i + 1) (done ++ [strOfNums ((l.take i).drop f)]) ⟨#[]⟩ (by omega) (Nat.le_refl _) (by simp; omega)
   have e2 : (l.take (i + 1)).drop (i + 1) = [] := List.drop_eq_nil_of_le (by rw [List.length_take]; omega)
   rw [e2] at h
   refine Ev.eq ?_ (by simpa using h)
   rw [drop_at l i hlt]
   simp [partsOf, hb]
  ·refine Ev.neg hb ?_
   have h := ih (i + 1) f done z (by omega) (by omega) (by omega)
   rw [ht] at h
   refine Ev.eq ?_ (by simpa using h)
   rw [drop_at l i hlt]
   simp [partsOf, hb]
theorem parts_ev (l : List Int) (hl : l.length ≤ 8796093000000) : Ev (fun k => sidingref13_Parts.f k l) ((partsOf [] l).map strOfNums) := by
 unfold sidingref13_Parts.f
 have h := parts_loop l hl l.length 0 0 [] ⟨#[]⟩ (by omega) (Nat.le_refl _) (Nat.le_refl _)
 simpa using h
theorem feedy_count (s : ByteArray) : feedy s = decide (0 < (bytesOf s).count 10) := by
 unfold feedy bytesOf
 generalize s.data.toList = l
 rw [Bool.eq_iff_iff, decide_eq_true_iff, decide_eq_true_iff]
 induction l with
 | nil => simp [Go.Lib.indexByte]
 | cons b l ih =>
  by_cases h : b = 10
  ·subst h
   simp [Go.Lib.indexByte]
  ·have h2 : ¬ ((b.toNat : Int) = 10) := by
    intro h3
    apply h
    apply UInt8.toNat_inj.1
    have : b.toNat = 10 := by omega
    rw [this]
    rfl
   have h1 : (b == 10) = false := by simpa using h
   simp only [Go.Lib.indexByte, h1, List.map_cons, List.count_cons]
   rw [if_neg (by simp)]
   have h3 : (((b.toNat : Int)) == 10) = false := by simpa using h2
   rw [h3]
   by_cases h4 : Go.Lib.indexByte l 10 = -1
   ·rw [h4]
    simp only [beq_self_eq_true, if_true]
    rw [h4] at ih
    simpa using ih
   ·have h5 : (Go.Lib.indexByte l 10 == -1) = false := by simpa using h4
    rw [h5, if_neg (by simp)]
    have h6 : 0 ≤ Go.Lib.indexByte l 10 + 1 ↔ 0 ≤ Go.Lib.indexByte l 10 := by
     constructor
     ·intro h7
      have := Go.Lib.indexByte l 10
      omega
     ·intro h7
      omega
    simpa [h6] using ih
end Go.Proofs.Ytahpbpacjciddaa.Pr
end
section
namespace Go.Proofs.Ytahpbpacjciddaa.Pr
open Go.RowKit Go.Proofs.YtahpbpacjciddaaW.PrintWords Go.Proofs.YtahpbpacjciddaaW.PrintLast Go.Proofs.YtahpbpacjciddaaW.PrintMore
set_option linter.unusedVariables false
set_option linter.unusedSimpArgs false
def ref13_Feed.f (l0 : List ByteArray) : Option (Bool) := if (l0.all fun s => decide (s.size ≤ 8796093000000)) = true then some (l0.any feedy) else none
theorem feed_parts (s : ByteArray) : decide (((((partsOf [] (bytesOf s)).map strOfNums).length : Nat) : Int) > 1) = feedy s := by
 rw [feedy_count, List.length_map, partsOf_length, Bool.eq_iff_iff, decide_eq_true_iff, decide_eq_true_iff]
 omega
set_option maxHeartbeats 2000000 in
theorem ref13_Feed.calls (A0 : Option Addr) (c0 : Nat) (l0 : List ByteArray) (r : Bool) (w : World) (hr0 : Kd.C Kd.string w A0 l0.length l0) (hc0 : l0.length ≤ c0) (h : ref13_Feed.f l0 = some r) :
  Calls Try.prog 35 #[.slice A0 l0.length c0] w fun e w' => e = .returned (.bool r) ∧ Below w.heap.size w w' := by
 unfold ref13_Feed.f at h
 split at h
 ·rename_i hsm
  have hsz : ∀ s ∈ l0, s.size ≤ 8796093000000 := fun s hs => of_decide_eq_true (List.all_eq_true.1 hsm s hs)
  obtain rfl : l0.any feedy = r := by injection h
  clear h hsm
  have hbig : l0.length ≤ 9223372036854775807 := hr0.2.1
  have HSZ := Aside0.mk hsz
  have HR0 := Aside0.mk hr0
  clear hsz hr0
  go_enter Try.func35, Try.ntmps35
  go_wp2
  go_loopg [3] l0.length (fun gg s3 wr => ∃ kk : Nat, kk ≤ l0.length ∧ l0.length - kk ≤ gg ∧ s3 = .int .i64 kk ∧ Aside0 (Below w.heap.size w wr) ∧ Aside0 (∀ j (hj : j < l0.length), j < kk → feedy (l0[j]'hj) = false))
  case atStart => exact ⟨0, Nat.zero_le _, by omega, rfl, ⟨Below.refl _ _⟩, ⟨fun j _ hj => absurd hj (Nat.not_lt_zero _)⟩⟩
  case round =>
   obtain ⟨kk, hkk, hg, rfl, HB, HN⟩ := hrel
   by_cases hlt : kk < l0.length
   ·have hltz : (kk : Int) < (l0.length : Int) := by omega
    obtain ⟨ad, rfl, hcell⟩ := Kd.at_string (Kd.C_below HR0.out HB.out) (kk : Int) (by omega) (by omega)
    simp only [Int.toNat_natCast] at hcell
    have hy0 : rdOf ByteArray.empty l0 (kk : Int) = l0[kk] := by simp [rdOf, hlt]
    rw [hy0] at hcell
    obtain ⟨y, hy⟩ : ∃ y, y = l0[kk] := ⟨_, rfl⟩
    rw [← hy] at hcell
    have hys : y.size ≤ 8796093000000 := by rw [hy]; exact HSZ.out _ (List.getElem_mem hlt)
    have HYS := Aside0.mk hys
    have HY := Aside0.mk hy
    have hbl : (bytesOf y).length = y.size := bytesOf_length y
    obtain ⟨k, hk⟩ := (parts_ev (bytesOf y) (by rw [hbl]; exact hys)).rounds
    have hfp := feed_parts y
    obtain ⟨ps, eps⟩ : ∃ ps, ps = (partsOf [] (bytesOf y)).map strOfNums := ⟨_, rfl⟩
    rw [← eps] at hk hfp
    have HK := Aside0.mk hk
    have HF := Aside0.mk hfp
    have HBL := Aside0.mk hbl
    clear hk hfp eps hy hy0 hys hbl
    obtain ⟨pl, hpl⟩ : ∃ n, n = ps.length := ⟨_, rfl⟩
    have HPL := Aside0.mk hpl
    clear hpl
    have kb := fun W => print_bytes (P := Try.prog) 9 48 5 Try.underlying9 Try.underlying48 Try.underlying5 y W
    have hC : ∀ W : World, Calls Try.prog 45 #[.slice (some ⟨W.heap.size, 0, none⟩) y.size (grownCap W y.size 0 5)] (Lib.bytesWorld W 5 y) fun e w' => ∃ (A : Option Addr) (c : Nat), e = .returned (.slice A pl c) ∧ Below W.heap.size W w' := by
     intro W
     have h := sidingref13_Parts.calls k (some ⟨W.heap.size, 0, none⟩) (grownCap W y.size 0 5) (bytesOf y) ps (Lib.bytesWorld W 5 y) (by rw [HBL.out]; exact bytes_C W 5 y (by have := HYS.out; omega)) (by rw [HBL.out]; exact grownCap_ge _ _ _ _) HK.out
     rw [HBL.out] at h
     refine h.mono ?_
     rintro e w' ⟨v, rfl, hR, hb⟩
     obtain ⟨A, c, rfl⟩ := Kd.R_slice hR
     refine ⟨A, c, by rw [HPL.out], ?_⟩
     have hs : (Lib.bytesWorld W 5 y).heap.size = W.heap.size + 1 := Lib.bytesWorld_size W 5 y
     exact below_then (bytes_below (Below.refl W.heap.size W) (Nat.le_refl _) 5 y) (by omega) hb
    have HF' : decide ((pl : Int) > 1) = feedy y := by rw [HPL.out]; exact HF.out
    have HF2 := Aside0.mk HF'
    clear HF' HF
    by_cases h1 : 1 < pl
    ·have h1i : (1 : Int) < (pl : Int) := by omega
     go_wp2_with (go_at_call 45; refine (hC _).mono ?_; rintro e w' ⟨A, c, rfl, hb⟩; have HB1 := Aside0.mk hb; clear hb)
     go_ret
     refine ⟨?_, below_then HB.out (Below.size HB.out) HB1.out⟩
     have : l0.any feedy = true := List.any_eq_true.2 ⟨y, by rw [HY.out]; exact List.getElem_mem hlt, by rw [← HF2.out]; exact decide_eq_true h1i⟩
     rw [this]
     rfl
    ·have h1i : ¬ (1 : Int) < (pl : Int) := by omega
     go_wp2_with (go_at_call 45; refine (hC _).mono ?_; rintro e w' ⟨A, c, rfl, hb⟩; have HB1 := Aside0.mk hb; clear hb)
     go_roundg (l0.length - (kk + 1))
     case measure => omega
     case rel =>
      refine ⟨kk + 1, by omega, by omega, by go_num, ⟨below_then HB.out (Below.size HB.out) HB1.out⟩, ⟨fun j hjl hj => ?_⟩⟩
      by_cases e : j = kk
      ·subst e
       rw [← HY.out, ← HF2.out]
       exact decide_eq_false (by omega)
      ·exact HN.out j hjl (by omega)
   ·have hltz : ¬ (kk : Int) < (l0.length : Int) := by omega
    have hk : kk = l0.length := by omega
    have HK := Aside0.mk hk
    clear hk
    go_wp2
    go_ret
    refine ⟨?_, HB.out⟩
    have : l0.any feedy = false := by
     rw [List.any_eq_false]
     intro s hs
     obtain ⟨j, hj, rfl⟩ := List.mem_iff_getElem.1 hs
     rw [HN.out j hj (by rw [HK.out]; exact hj)]
     simp
    rw [this]
    rfl
 ·cases h
end Go.Proofs.Ytahpbpacjciddaa.Pr
end
