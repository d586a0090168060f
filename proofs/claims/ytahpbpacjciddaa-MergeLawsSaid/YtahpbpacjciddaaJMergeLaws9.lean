/- Part 9 of the proof of MergeLaws: texts put together. -/
import Derived.Test.YtahpbpacjciddaaJMergeLaws5
import Derived.Test.YtahpbpacjciddaaJMergeLaws8
import Derived.StillTailTactics
import Derived.IntWalk
section
namespace Go.Proofs.Ytahpbpacjciddaa.Pr
open Go.RowKit Go.Proofs.YtahpbpacjciddaaW.PrintWords Go.Proofs.YtahpbpacjciddaaW.PrintLast Go.Proofs.YtahpbpacjciddaaW.PrintMore
set_option linter.unusedVariables false
set_option linter.unusedSimpArgs false
def mruns (x y : List Int) (n i m : Nat) : Bool := decide (i + m < n) && (decide (x.getD (i + m) 0 = x.getD i 0 + (m : Int)) && decide (y.getD (i + m) 0 = y.getD i 0 + (m : Int)))
def mrun (x y : List Int) (n i : Nat) : Nat → Nat → Nat
 | 0, m => m
 | d + 1, m => if mruns x y n i m = true then mrun x y n i d (m + 1) else m
def mboth (x y : List Int) (i : Nat) : Bool := decide (0 ≤ x.getD i 0) && decide (0 ≤ y.getD i 0)
def mgo (l0 l1 l2 : List ByteArray) (x y : List Int) : Nat → Nat → Nat × Nat × Nat → List S34 → Option ((Nat × Nat × Nat) × List S34)
 | 0, _, _, _ => none
 | f + 1, i, a, out =>
  if i < l0.length then
   if mboth x y i = true then
    (cutAt l0 l1 l2 a (i, (x.getD i 0).toNat, (y.getD i 0).toNat) out).bind fun o1 =>
     (cutAt l0 l1 l2 (i, (x.getD i 0).toNat, (y.getD i 0).toNat) (i + mrun x y l0.length i l0.length 1, (x.getD i 0).toNat + mrun x y l0.length i l0.length 1, (y.getD i 0).toNat + mrun x y l0.length i l0.length 1) o1).bind fun o2 =>
      mgo l0 l1 l2 x y f (i + mrun x y l0.length i l0.length 1) (i + mrun x y l0.length i l0.length 1, (x.getD i 0).toNat + mrun x y l0.length i l0.length 1, (y.getD i 0).toNat + mrun x y l0.length i l0.length 1) o2
   else mgo l0 l1 l2 x y f (i + 1) a out
  else some (a, out)
def mfits (n : Nat) (x : List Int) : Bool := decide (x.length = n) && x.all fun v => decide (-1 ≤ v) && decide (v ≤ 1000000)
def merge_Merge.g (l0 l1 l2 : List ByteArray) (x y : List Int × Int) : Option (List S34 × Int) :=
 if (mfits l0.length x.1 && mfits l0.length y.1 && decide (l0.length ≤ 400000) && decide (l1.length ≤ 400000) && decide (l2.length ≤ 400000)) = true then
  (mgo l0 l1 l2 x.1 y.1 (l0.length + 1) 0 (0, 0, 0) []).bind fun r => (cutAt l0 l1 l2 r.1 (l0.length, l1.length, l2.length) r.2).map fun out => (out, 0)
 else none
def mm3 (k : Nat) (l0 l1 l2 : List ByteArray) : Option (List S34 × Int) := (merge_pairs.f k l0 l1).bind fun x => (merge_pairs.f k l0 l2).bind fun y => merge_Merge.g l0 l1 l2 x y
def mm2 (k : Nat) (l0 l1 l2 : List ByteArray) : Option (List S34 × Int) := (lines_Join.f l2).bind fun j => if j.2 = 0 then mm3 k l0 l1 l2 else some ([], j.2)
def mm1 (k : Nat) (l0 l1 l2 : List ByteArray) : Option (List S34 × Int) := (lines_Join.f l1).bind fun j => if j.2 = 0 then mm2 k l0 l1 l2 else some ([], j.2)
def merge_Merge.f (k : Nat) (l0 l1 l2 : List ByteArray) : Option (List S34 × Int) := (lines_Join.f l0).bind fun j => if j.2 = 0 then mm1 k l0 l1 l2 else some ([], j.2)
def mmAt (k : Nat) (l0 l1 l2 : List ByteArray) : Nat → Option (List S34 × Int)
 | 0 => merge_Merge.f k l0 l1 l2
 | 1 => mm1 k l0 l1 l2
 | 2 => mm2 k l0 l1 l2
 | _ => mm3 k l0 l1 l2
theorem merge_Merge.mono : ∀ a0 a1 a2 k, LeO (merge_Merge.f k a0 a1 a2) (merge_Merge.f (k + 1) a0 a1 a2) := fun a0 a1 a2 k =>
 LeO.bind (LeO.refl _) (fun _ => LeO.ite (LeO.bind (LeO.refl _) (fun _ => LeO.ite (LeO.bind (LeO.refl _) (fun _ => LeO.ite (LeO.bind (merge_pairs.mono _ _ _) (fun _ => LeO.bind (merge_pairs.mono _ _ _) (fun _ => LeO.refl _))) (LeO.refl _))) (LeO.refl _))) (LeO.refl _))
theorem mfits_at {x : List Int} (h : (x.all fun v => decide (-1 ≤ v) && decide (v ≤ 1000000)) = true) {i : Nat} (hi : i < x.length) : -1 ≤ x.getD i 0 ∧ x.getD i 0 ≤ 1000000 := by
 rw [List.getD_eq_getElem?_getD, List.getElem?_eq_getElem hi]
 have := List.all_eq_true.1 h x[i] (List.getElem_mem hi)
 simpa using this
theorem mrun_ge (x y : List Int) (n i : Nat) : ∀ d m, m ≤ mrun x y n i d m
 | 0, _ => Nat.le_refl _
 | d + 1, m => by
  unfold mrun
  split
  ·exact Nat.le_trans (Nat.le_succ m) (mrun_ge x y n i d (m + 1))
  ·exact Nat.le_refl _
theorem mrun_le (x y : List Int) (n i : Nat) : ∀ d m, i + m ≤ n → i + mrun x y n i d m ≤ n
 | 0, _, h => h
 | d + 1, m, h => by
  unfold mrun
  split
  ·rename_i hr
   simp only [mruns, Bool.and_eq_true, decide_eq_true_eq] at hr
   exact mrun_le x y n i d (m + 1) (by omega)
  ·exact h
theorem cutAt_len {l0 l1 l2 : List ByteArray} {a t : Nat × Nat × Nat} {out o1 : List S34} (h : cutAt l0 l1 l2 a t out = some o1) : o1.length ≤ out.length + 1 := by
 unfold cutAt at h
 split at h
 ·rw [← Option.some.inj h]; omega
 ·split at h
  ·rw [← Option.some.inj h]; simp
  ·cases h
theorem int_cell {w : World} {ad : Addr} {n : Nat} {xs : List Int} (h : Kd.C (Kd.int .i64) w (some ad) n xs) (i : Nat) (hi : i < n) : w.cell? (ad.add i) = some (.int .i64 (xs.getD i 0)) := by
 obtain ⟨ad', e, hc⟩ := Kd.at_int h (i : Int) (by omega) (by omega)
 injection e with e
 subst e
 rw [Int.toNat_natCast] at hc
 rw [hc]
 unfold rd
 rw [Int.toNat_natCast]
theorem drewN2 (w : World) (a b : Nat) : (w.drewN a).drewN b = w.drewN (a + b) := World.drewN_drewN w a b
theorem mruns_eq {x y : List Int} {n i m xn yn : Nat} (hx : x.getD i 0 = (xn : Int)) (hy : y.getD i 0 = (yn : Int)) : mruns x y n i m = (decide (i + m < n) && (decide (x.getD (i + m) 0 = ((xn + m : Nat) : Int)) && decide (y.getD (i + m) 0 = ((yn + m : Nat) : Int)))) := by
 unfold mruns
 rw [hx, hy, ← Int.natCast_add, ← Int.natCast_add]
theorem St_below {W W' : World} {gO : Nat} {a : Nat × Nat × Nat} {out : List S34} (h : Cut.St W gO a out) (hb : Below W.heap.size W W') : Cut.St W' gO a out := by
 obtain ⟨v, h1, h2, h3, h4⟩ := h
 exact ⟨v, by rw [hb.block _ (by omega)]; exact h1, by rw [hb.block _ (by omega)]; exact h2, Kd.S_below h3 hb, Nat.le_trans h4 (Below.size hb)⟩
set_option maxHeartbeats 8000000 in
set_option maxRecDepth 100000 in
theorem merge_Merge.calls (k : Nat) (A0 : Option Addr) (c0 : Nat) (l0 : List ByteArray) (A1 : Option Addr) (c1 : Nat) (l1 : List ByteArray) (A2 : Option Addr) (c2 : Nat) (l2 : List ByteArray) (r1 : List S34) (r2 : Int) (w : World) (hr0 : Kd.C Kd.string w A0 l0.length l0) (hc0 : l0.length ≤ c0) (hr1 : Kd.C Kd.string w A1 l1.length l1) (hc1 : l1.length ≤ c1) (hr2 : Kd.C Kd.string w A2 l2.length l2) (hc2 : l2.length ≤ c2) (h : merge_Merge.f k l0 l1 l2 = some (r1, r2)) :
  Calls Try.prog 9 #[.slice A0 l0.length c0, .slice A1 l1.length c1, .slice A2 l2.length c2] w fun e w' => ∃ v0_ : Value, e = .returned (.tuple #[v0_, .int .i64 r2]) ∧ Kd.S k34 34 w' w.heap.size (fun _ => True) v0_ r1 ∧ Below w.heap.size w w' := by
 have i0 : ∀ (x y z : Value) W, (Instr.index 47 (.agg #[x, y, z]) (.int .i64 0)).run Try.prog W = .ok x W := fun x y z W => by kernel_rfl
 have i1 : ∀ (x y z : Value) W, (Instr.index 47 (.agg #[x, y, z]) (.int .i64 1)).run Try.prog W = .ok y W := fun x y z W => by kernel_rfl
 have i2 : ∀ (x y z : Value) W, (Instr.index 47 (.agg #[x, y, z]) (.int .i64 2)).run Try.prog W = .ok z W := fun x y z W => by kernel_rfl
 have HR0 := Aside0.mk hr0
 have HR1 := Aside0.mk hr1
 have HR2 := Aside0.mk hr2
 have H0 := Aside0.mk (show mmAt k l0 l1 l2 0 = some (r1, r2) from h)
 obtain ⟨wB, hwB⟩ : ∃ wB, wB = ((w.alloc (.cells #[.slice A0 l0.length c0] 22)).alloc (.cells #[.slice A1 l1.length c1] 22)).alloc (.cells #[.slice A2 l2.length c2] 22) := ⟨_, rfl⟩
 have HBW := Aside0.mk (show Below w.heap.size w wB by rw [hwB]; exact (((Below.refl _ _).alloc (Nat.le_refl _) _).alloc (by simp) _).alloc (by simp; omega) _)
 have KB := Aside0.mk (show wB.cell? ⟨w.heap.size, 0, none⟩ = some (.slice A0 l0.length c0) by rw [hwB]; go_simp)
 have KU := Aside0.mk (show wB.cell? ⟨w.heap.size + 1, 0, none⟩ = some (.slice A1 l1.length c1) by rw [hwB]; go_simp)
 have KT := Aside0.mk (show wB.cell? ⟨w.heap.size + 1 + 1, 0, none⟩ = some (.slice A2 l2.length c2) by rw [hwB]; go_simp)
 have LB := Aside0.mk (show wB.heap.size = w.heap.size + 3 by rw [hwB]; simp)
 have eg : ∀ args w, (callFunc 27 args).run Try.prog w = .ok (.enter 27 args) w := enters_of Try.func27 (by kernel_rfl) rfl
 clear hr0 hr1 hr2 h
 go_enter Try.func9, Try.ntmps9
 go_upto_block 0 with fail
 rw [← hwB]
 clear hwB
 go_cut [] (fun wx => Aside0 (mmAt k l0 l1 l2 3 = some (r1, r2)) ∧ Aside0 (Below wB.heap.size wB wx))
 case first =>
  go_wp2_with fail
  go_loopg [25] 3 (fun nq v25 wr => ∃ j : Nat, v25 = .int .i64 (j : Int) ∧ j ≤ 3 ∧ 3 - j ≤ nq ∧ Aside0 (mmAt k l0 l1 l2 j = some (r1, r2)) ∧ Aside0 (Below wB.heap.size wB wr))
  case atStart => exact ⟨0, rfl, by omega, by omega, H0, ⟨Below.refl _ _⟩⟩
  case round =>
   clear H0
   obtain ⟨j, rfl, hj, hjq, HM, HBX⟩ := hrel
   have hcase : j = 0 ∨ j = 1 ∨ j = 2 ∨ j = 3 := by omega
   rcases hcase with rfl | rfl | rfl | rfl
   ·obtain ⟨⟨q, e⟩, hq, hm⟩ := Option.bind_eq_some_iff.1 (show merge_Merge.f k l0 l1 l2 = some (r1, r2) from HM.out)
    have HQ := Aside0.mk hq
    have HC := Aside0.mk (Kd.C_below (Kd.C_below HR0.out HBW.out) HBX.out)
    dsimp only at hm
    clear hq HM
    by_cases he : e = 0
    ·subst he
     rw [if_pos rfl] at hm
     have HM' := Aside0.mk hm
     clear hm
     go_wp2_with (go_at_call 25; (with_reducible refine (lines_Join.calls A0 c0 l0 q 0 _ HC.out hc0 HQ.out).mono ?_); rintro e_ w1 ⟨v6, rfl, hv6, hb1⟩; obtain ⟨A6, c6, rfl⟩ := Kd.V_slice hv6; have HB1 := Aside0.mk (Below.trans HBX.out (Below.mono hb1 (Below.size HBX.out))); clear hv6 hb1)
     go_roundg 2
     case measure => omega
     case rel => exact ⟨1, rfl, by omega, by omega, HM', HB1⟩
    ·rw [if_neg he] at hm
     obtain ⟨rfl, rfl⟩ := Prod.mk.inj (Option.some.inj hm)
     clear hm
     have e1 : (e == 0) = false := by simpa using he
     have e2 : (e != 0) = true := by simpa using he
     go_wp2_with (go_at_call 25; (with_reducible refine (lines_Join.calls A0 c0 l0 q e _ HC.out hc0 HQ.out).mono ?_); rintro e_ w1 ⟨v6, rfl, hv6, hb1⟩; obtain ⟨A6, c6, rfl⟩ := Kd.V_slice hv6; have HB1 := Aside0.mk (Below.trans HBX.out (Below.mono hb1 (Below.size HBX.out))); clear hv6 hb1)
     go_ret2
     exact ⟨_, rfl, Kd.S_nil _ _ _ _ _, Below.trans HBW.out (Below.mono HB1.out (Below.size HBW.out))⟩
   ·obtain ⟨⟨q, e⟩, hq, hm⟩ := Option.bind_eq_some_iff.1 (show mm1 k l0 l1 l2 = some (r1, r2) from HM.out)
    have HQ := Aside0.mk hq
    have HC := Aside0.mk (Kd.C_below (Kd.C_below HR1.out HBW.out) HBX.out)
    dsimp only at hm
    clear hq HM
    by_cases he : e = 0
    ·subst he
     rw [if_pos rfl] at hm
     have HM' := Aside0.mk hm
     clear hm
     go_wp2_with (go_at_call 25; (with_reducible refine (lines_Join.calls A1 c1 l1 q 0 _ HC.out hc1 HQ.out).mono ?_); rintro e_ w1 ⟨v6, rfl, hv6, hb1⟩; obtain ⟨A6, c6, rfl⟩ := Kd.V_slice hv6; have HB1 := Aside0.mk (Below.trans HBX.out (Below.mono hb1 (Below.size HBX.out))); clear hv6 hb1)
     go_roundg 1
     case measure => omega
     case rel => exact ⟨2, rfl, by omega, by omega, HM', HB1⟩
    ·rw [if_neg he] at hm
     obtain ⟨rfl, rfl⟩ := Prod.mk.inj (Option.some.inj hm)
     clear hm
     have e1 : (e == 0) = false := by simpa using he
     have e2 : (e != 0) = true := by simpa using he
     go_wp2_with (go_at_call 25; (with_reducible refine (lines_Join.calls A1 c1 l1 q e _ HC.out hc1 HQ.out).mono ?_); rintro e_ w1 ⟨v6, rfl, hv6, hb1⟩; obtain ⟨A6, c6, rfl⟩ := Kd.V_slice hv6; have HB1 := Aside0.mk (Below.trans HBX.out (Below.mono hb1 (Below.size HBX.out))); clear hv6 hb1)
     go_ret2
     exact ⟨_, rfl, Kd.S_nil _ _ _ _ _, Below.trans HBW.out (Below.mono HB1.out (Below.size HBW.out))⟩
   ·obtain ⟨⟨q, e⟩, hq, hm⟩ := Option.bind_eq_some_iff.1 (show mm2 k l0 l1 l2 = some (r1, r2) from HM.out)
    have HQ := Aside0.mk hq
    have HC := Aside0.mk (Kd.C_below (Kd.C_below HR2.out HBW.out) HBX.out)
    dsimp only at hm
    clear hq HM
    by_cases he : e = 0
    ·subst he
     rw [if_pos rfl] at hm
     have HM' := Aside0.mk hm
     clear hm
     go_wp2_with (go_at_call 25; (with_reducible refine (lines_Join.calls A2 c2 l2 q 0 _ HC.out hc2 HQ.out).mono ?_); rintro e_ w1 ⟨v6, rfl, hv6, hb1⟩; obtain ⟨A6, c6, rfl⟩ := Kd.V_slice hv6; have HB1 := Aside0.mk (Below.trans HBX.out (Below.mono hb1 (Below.size HBX.out))); clear hv6 hb1)
     go_roundg 0
     case measure => omega
     case rel => exact ⟨3, rfl, by omega, by omega, HM', HB1⟩
    ·rw [if_neg he] at hm
     obtain ⟨rfl, rfl⟩ := Prod.mk.inj (Option.some.inj hm)
     clear hm
     have e1 : (e == 0) = false := by simpa using he
     have e2 : (e != 0) = true := by simpa using he
     go_wp2_with (go_at_call 25; (with_reducible refine (lines_Join.calls A2 c2 l2 q e _ HC.out hc2 HQ.out).mono ?_); rintro e_ w1 ⟨v6, rfl, hv6, hb1⟩; obtain ⟨A6, c6, rfl⟩ := Kd.V_slice hv6; have HB1 := Aside0.mk (Below.trans HBX.out (Below.mono hb1 (Below.size HBX.out))); clear hv6 hb1)
     go_ret2
     exact ⟨_, rfl, Kd.S_nil _ _ _ _ _, Below.trans HBW.out (Below.mono HB1.out (Below.size HBW.out))⟩
   ·go_wp2
    go_meet
    exact ⟨HM, HBX⟩
 case rest =>
  obtain ⟨HM, HBX⟩ := hcut
  obtain ⟨⟨x, ex⟩, hx, hm⟩ := Option.bind_eq_some_iff.1 (show mm3 k l0 l1 l2 = some (r1, r2) from HM.out)
  obtain ⟨⟨y, ey⟩, hy, hm⟩ := Option.bind_eq_some_iff.1 hm
  unfold merge_Merge.g at hm
  dsimp only at hm
  split at hm
  ·rename_i hcond
   simp only [Bool.and_eq_true, decide_eq_true_eq] at hcond
   obtain ⟨⟨⟨⟨fx, fy⟩, hn0⟩, hn1⟩, hn2⟩ := hcond
   obtain ⟨⟨aF, oF⟩, hgo, hm⟩ := Option.bind_eq_some_iff.1 hm
   obtain ⟨oR, hcR, hm⟩ := Option.map_eq_some_iff.1 hm
   obtain ⟨rfl, rfl⟩ := Prod.mk.inj hm
   dsimp only at hcR
   have HX := Aside0.mk hx
   have HY := Aside0.mk hy
   have FX := Aside0.mk fx
   have FY := Aside0.mk fy
   have HGO := Aside0.mk hgo
   have HCR := Aside0.mk hcR
   clear hx hy fx fy hgo hcR hm HM H0
   obtain ⟨wx, rfl⟩ : ∃ wx, wx = wc := ⟨_, rfl⟩
   have hB := pc_keep HBX.out (by have := LB.out; omega) KB.out
   have hU := pc_keep HBX.out (by have := LB.out; omega) KU.out
   have hT := pc_keep HBX.out (by have := LB.out; omega) KT.out
   have S0 := Aside0.mk (Kd.C_below (Kd.C_below HR0.out HBW.out) HBX.out)
   have S1 := Aside0.mk (Kd.C_below (Kd.C_below HR1.out HBW.out) HBX.out)
   have S2 := Aside0.mk (Kd.C_below (Kd.C_below HR2.out HBW.out) HBX.out)
   have LX := Aside0.mk (show w.heap.size + 3 ≤ wx.heap.size by have := LB.out; have := Below.size HBX.out; omega)
   have HBX' := Aside0.mk (Below.trans HBW.out (Below.mono HBX.out (Below.size HBW.out)))
   clear HBX KB KU KT LB HR0 HR1 HR2 HBW
   go_upto_region 9 with (go_at_call 26; (with_reducible refine (merge_pairs.calls k A0 c0 l0 A1 c1 l1 x ex _ S0.out hc0 S1.out hc1 HX.out).mono ?_); rintro e_ w3 ⟨v12, rfl, hv12, hb3⟩; obtain ⟨AX, cX, rfl⟩ := Kd.R_slice hv12; have V12 := Aside0.mk hv12; have HB3 := Aside0.mk hb3; clear hv12 hb3)
   have hB3 := pc_keep HB3.out (by have := LX.out; omega) hB
   have hU3 := pc_keep HB3.out (by have := LX.out; omega) hU
   have hT3 := pc_keep HB3.out (by have := LX.out; omega) hT
   clear hB hU hT
   go_upto_region 10 with (go_at_call 26; (with_reducible refine (merge_pairs.calls k A0 c0 l0 A2 c2 l2 y ey _ (Kd.C_below S0.out HB3.out) hc0 (Kd.C_below S2.out HB3.out) hc2 HY.out).mono ?_); rintro e_ w4 ⟨v14, rfl, hv14, hb4⟩; obtain ⟨AY, cY, rfl⟩ := Kd.R_slice hv14; have V14 := Aside0.mk hv14; have HB4 := Aside0.mk hb4; clear hv14 hb4)
   have hB4 := pc_keep HB4.out (by have := LX.out; have := Below.size HB3.out; omega) hB3
   have hU4 := pc_keep HB4.out (by have := LX.out; have := Below.size HB3.out; omega) hU3
   have hT4 := pc_keep HB4.out (by have := LX.out; have := Below.size HB3.out; omega) hT3
   clear hB3 hU3 hT3
   have CX := (Kd.C_below (Kd.R_reads' V12.out).2.2 HB4.out)
   have CY := (Kd.R_reads' V14.out).2.2
   have hB34 := Below.trans HB3.out (Below.mono HB4.out (Below.size HB3.out))
   have T0 := Aside0.mk (Kd.C_below S0.out hB34)
   have T1 := Aside0.mk (Kd.C_below S1.out hB34)
   have T2 := Aside0.mk (Kd.C_below S2.out hB34)
   have LW := Aside0.mk (show w.heap.size + 3 ≤ w4.heap.size by have := LX.out; have := Below.size hB34; omega)
   have HB04 := Aside0.mk (Below.trans HBX'.out (Below.mono hB34 (Below.size HBX'.out)))
   have KB := Aside0.mk hB4
   have KU := Aside0.mk hU4
   have KT := Aside0.mk hT4
   simp only [mfits, Bool.and_eq_true, decide_eq_true_eq] at FX FY
   obtain ⟨fx1, fx2⟩ := FX.out
   obtain ⟨fy1, fy2⟩ := FY.out
   rw [fx1] at CX
   rw [fy1] at CY
   simp only [fx1, fy1]
   have CX := Aside0.mk CX
   have CY := Aside0.mk CY
   have LXN := Aside0.mk fx1
   have LYN := Aside0.mk fy1
   have GX := Aside0.mk fx2
   have GY := Aside0.mk fy2
   clear fx1 fy1 hB4 hU4 hT4 V12 V14 HB3 HB4 S0 S1 S2 LX HBX' hB34 FX FY fx2 fy2 HX HY
   go_upto_block 2 with fail
   obtain ⟨wL, hwL⟩ : ∃ wL, wL = (w4.alloc (Obj.cells #[Value.slice none 0 0] 24)).alloc (Obj.cells #[Value.int IntKind.i64 0, Value.int IntKind.i64 0, Value.int IntKind.i64 0] 54) := ⟨_, rfl⟩
   have HBL0 := Aside0.mk (show Below w4.heap.size w4 wL by rw [hwL]; exact ((Below.refl _ _).alloc (Nat.le_refl _) _).alloc (by simp) _)
   have HST0 := Aside0.mk (show Cut.St wL w4.heap.size (0, 0, 0) [] by
    refine ⟨.slice none 0 0, ?_, ?_, Kd.S_nil _ _ _ _ _, ?_⟩
    ·rw [hwL, Below.heap_alloc _ _ _ (by simp)]
     exact Go.heap_alloc_new w4 _
    ·rw [hwL]
     have h := Go.heap_alloc_new (w4.alloc (Obj.cells #[Value.slice none 0 0] 24)) (Obj.cells #[Value.int IntKind.i64 0, Value.int IntKind.i64 0, Value.int IntKind.i64 0] 54)
     rw [World.size_alloc] at h
     exact h
    ·rw [hwL]; simp)
   rw [← hwL]
   clear hwL
   go_cut [] (fun wy => Aside0 (Cut.St wy w4.heap.size aF oF) ∧ Aside0 (Below w4.heap.size w4 wy) ∧ oF.length ≤ 1000000)
   case first =>
    go_wp2_with fail
    go_loopg [19] (l0.length + 1) (fun nq v19 wr => ∃ (n i : Nat) (a : Nat × Nat × Nat) (out : List S34), n = nq ∧ v19 = .int .i64 (i : Int) ∧ i ≤ l0.length ∧ Aside0 (mgo l0 l1 l2 x y n i a out = some (aF, oF)) ∧ out.length ≤ 2 * i ∧ Aside0 (Cut.St wr w4.heap.size a out) ∧ Aside0 (Below w4.heap.size w4 wr))
    case atStart => exact ⟨_, 0, (0, 0, 0), [], rfl, rfl, by omega, HGO, by simp, HST0, HBL0⟩
    case round =>
     clear HGO HST0 HBL0
     obtain ⟨n, i, a, out, rfl, rfl, hi, HG, hol, HST, HBL⟩ := hrel
     obtain ⟨n', rfl⟩ : ∃ n', n = n' + 1 := by
      cases n with
      | zero => exact absurd HG.out (by simp [mgo])
      | succ n => exact ⟨n, rfl⟩
     have hBr := pc_keep HBL.out (by have := LW.out; omega) KB.out
     have hg := HG.out
     unfold mgo at hg
     by_cases hlt : i < l0.length
     ·have q1 : decide ((i : Int) < (l0.length : Int)) = true := decide_eq_true (by omega)
      have q2 : decide (i < l0.length) = true := decide_eq_true hlt
      rw [if_pos hlt] at hg
      have HG' := Aside0.mk hg
      clear hg
      obtain ⟨adX, rfl, hcx⟩ := Kd.at_int (Kd.C_below CX.out HBL.out) (i : Int) (by omega) (by omega)
      obtain ⟨adY, rfl, hcy⟩ := Kd.at_int (Kd.C_below CY.out HBL.out) (i : Int) (by omega) (by omega)
      rw [Int.toNat_natCast] at hcx hcy
      have ex1 : rd x (i : Int) = x.getD i 0 := by unfold rd; rw [Int.toNat_natCast]
      have ey1 : rd y (i : Int) = y.getD i 0 := by unfold rd; rw [Int.toNat_natCast]
      rw [ex1] at hcx
      rw [ey1] at hcy
      clear ex1 ey1
      have bx := mfits_at GX.out (show i < x.length by have := LXN.out; omega)
      have by_ := mfits_at GY.out (show i < y.length by have := LYN.out; omega)
      go_upto_region 16 with fail
      go_cut [68] (fun s68 wc => s68 = .bool (!mboth x y i) ∧ wc = wr)
      case first =>
       obtain ⟨xi, hxi⟩ : ∃ xi, xi = x.getD i 0 := ⟨_, rfl⟩
       obtain ⟨yi, hyi⟩ : ∃ yi, yi = y.getD i 0 := ⟨_, rfl⟩
       have HE := Aside0.mk (show mboth x y i = (decide (0 ≤ xi) && decide (0 ≤ yi)) by rw [hxi, hyi]; rfl)
       rw [← hxi] at hcx bx
       rw [← hyi] at hcy by_
       clear hxi hyi
       by_cases z1 : xi < 0
       ·have z1b : decide (xi < 0) = true := decide_eq_true z1
        go_wp2
        go_meet
        exact ⟨congrArg Value.bool (by rw [HE.out, decide_eq_false (by omega), Bool.false_and]; rfl), rfl⟩
       ·have z1b : decide (xi < 0) = false := decide_eq_false z1
        by_cases z2 : yi < 0
        ·have z2b : decide (yi < 0) = true := decide_eq_true z2
         go_wp2
         go_meet
         exact ⟨congrArg Value.bool (by rw [HE.out, decide_eq_false (p := 0 ≤ yi) (by omega), Bool.and_false]; rfl), rfl⟩
        ·have z2b : decide (yi < 0) = false := decide_eq_false z2
         go_wp2
         go_meet
         exact ⟨congrArg Value.bool (by rw [HE.out, decide_eq_true (p := 0 ≤ yi) (by omega), decide_eq_true (p := 0 ≤ xi) (by omega)]; rfl), rfl⟩
      case rest =>
       obtain ⟨rfl, hwc⟩ := hcut
       subst wc
       have hg := HG'.out
       cases hq : mboth x y i with
       | false =>
        rw [hq, if_neg Bool.false_ne_true] at hg
        have HG2 := Aside0.mk hg
        rw [Bool.not_false]
        clear hg hq HG'
        go_wp2
        go_roundg n'
        case measure => omega
        case rel => exact ⟨n', i + 1, a, out, rfl, by go_num, by omega, HG2, by omega, HST, HBL⟩
       | true =>
        rw [hq, if_pos rfl] at hg
        obtain ⟨o1, hz1, hg⟩ := Option.bind_eq_some_iff.1 hg
        obtain ⟨o2, hz2, hg⟩ := Option.bind_eq_some_iff.1 hg
        have z := hq
        simp only [mboth, Bool.and_eq_true, decide_eq_true_eq] at z
        obtain ⟨xn, hxn⟩ := Int.eq_ofNat_of_zero_le z.1
        obtain ⟨yn, hyn⟩ := Int.eq_ofNat_of_zero_le z.2
        rw [hxn] at hcx bx
        rw [hyn] at hcy by_
        rw [hxn, hyn] at hz1 hz2 hg
        simp only [Int.toNat_natCast] at hz1 hz2 hg
        obtain ⟨M, hM⟩ : ∃ M, M = mrun x y l0.length i l0.length 1 := ⟨_, rfl⟩
        rw [← hM] at hz2 hg
        have hM1 := mrun_ge x y l0.length i l0.length 1
        have hM2 := mrun_le x y l0.length i l0.length 1 (by omega)
        rw [← hM] at hM1 hM2
        have HM1 := Aside0.mk hM
        have HC1 := Aside0.mk hz1
        have HC2 := Aside0.mk hz2
        have HG2 := Aside0.mk hg
        have HXN := Aside0.mk hxn
        have HYN := Aside0.mk hyn
        have hol1 : o1.length ≤ out.length + 1 := cutAt_len hz1
        have hol2 : o2.length ≤ o1.length + 1 := cutAt_len hz2
        have HCL := Aside0.mk (cut.calls w4.heap.size w.heap.size (w.heap.size + 1) (w.heap.size + 1 + 1) wr.drew A0 c0 l0 A1 c1 l1 A2 c2 l2 (Kd.C_drew (Kd.C_below T0.out HBL.out)) hc0 (Kd.C_drew (Kd.C_below T1.out HBL.out)) hc1 (Kd.C_drew (Kd.C_below T2.out HBL.out)) hc2 (by omega) (by omega) (by omega) (pc_keep (i := 0) HBL.out (by have := LW.out; omega) KB.out) (pc_keep (i := 0) HBL.out (by have := LW.out; omega) KU.out) (pc_keep (i := 0) HBL.out (by have := LW.out; omega) KT.out) (by have := LW.out; omega) (by have := LW.out; omega) (by have := LW.out; omega) a.1 a.2.1 a.2.2 i xn yn (by omega) (by omega) (by omega) out o1 (by omega) HST.out HC1.out)
        clear hg hz1 hz2 hxn hyn hM z hq HG'
        rw [Bool.not_true]
        go_upto_region 17 with fail
        go_still_tail 11, (by kernel_rfl)
        go_upto_block 4 with (go_at_fn 27; (with_reducible refine HCL.out.mono ?_); rintro e_ w6 ⟨rfl, hp⟩; have HP6 := Aside0.mk hp; clear hp)
        have HBL6 := Aside0.mk (Below.trans HBL.out (Below.trans (below_drew1 (Below.refl _ _)) HP6.out.2))
        have hB6 := pc_keep (i := 0) HBL6.out (by have := LW.out; omega) KB.out
        have CX6 := Aside0.mk (Kd.C_below CX.out HBL6.out)
        have CY6 := Aside0.mk (Kd.C_below CY.out HBL6.out)
        clear hBr hcx hcy HCL
        go_cut [20] (fun v20 wz => v20 = .int .i64 (M : Int) ∧ ∃ q, wz = w6.drewN q)
        case first =>
         go_wp2_with fail
         go_loopg [20] l0.length (fun nq2 v20 w7 => ∃ d m q : Nat, v20 = .int .i64 (m : Int) ∧ d = nq2 ∧ m + d = l0.length + 1 ∧ 1 ≤ m ∧ i + m ≤ l0.length ∧ Aside0 (mrun x y l0.length i d m = M) ∧ w7 = w6.drewN q)
         case atStart => exact ⟨_, 1, 0, rfl, rfl, by omega, by omega, by omega, ⟨HM1.out.symm⟩, rfl⟩
         case round =>
          obtain ⟨d, m, q, rfl, rfl, hmd, hm1, him, HR, rfl⟩ := hrel
          have hx0 := int_cell CX6.out i (by omega)
          have hy0 := int_cell CY6.out i (by omega)
          rw [HXN.out] at hx0
          rw [HYN.out] at hy0
          go_upto_region 19 with fail
          go_cut [116] (fun s116 wz => s116 = .bool (mruns x y l0.length i m) ∧ ∃ q, wz = w6.drewN q)
          case first =>
           have HE := Aside0.mk (mruns_eq (n := l0.length) (m := m) HXN.out HYN.out)
           have j0 : IntKind.i64.wrap ((i : Int) + (m : Int)) = (i : Int) + (m : Int) := IntWalk.i64_in _ (by omega)
           have j1 : ((i : Int) + (m : Int)).toNat = i + m := by omega
           have j2 : (0 : Int) ≤ (i : Int) + (m : Int) := by omega
           by_cases z1 : i + m < l0.length
           ·have z1b : decide ((i : Int) + (m : Int) < (l0.length : Int)) = true := decide_eq_true (by omega)
            have z1c : (i : Int) + (m : Int) < (l0.length : Int) := by omega
            have hx1 := int_cell CX6.out (i + m) z1
            have hy1 := int_cell CY6.out (i + m) z1
            obtain ⟨xv, hxv⟩ : ∃ v, v = x.getD (i + m) 0 := ⟨_, rfl⟩
            obtain ⟨yv, hyv⟩ : ∃ v, v = y.getD (i + m) 0 := ⟨_, rfl⟩
            rw [← hxv] at hx1
            rw [← hyv] at hy1
            have HE2 := Aside0.mk (show mruns x y l0.length i m = (decide (xv = ((xn + m : Nat) : Int)) && decide (yv = ((yn + m : Nat) : Int))) by rw [HE.out, ← hxv, ← hyv, decide_eq_true z1, Bool.true_and])
            clear hxv hyv
            have j3 : IntKind.i64.wrap ((xn : Int) + (m : Int)) = (xn : Int) + (m : Int) := IntWalk.i64_in _ (by omega)
            have j4 : IntKind.i64.wrap ((yn : Int) + (m : Int)) = (yn : Int) + (m : Int) := IntWalk.i64_in _ (by omega)
            by_cases z2 : xv = (xn : Int) + (m : Int)
            ·have z2b : (xv == (xn : Int) + (m : Int)) = true := by simpa using z2
             have Z2 := Aside0.mk (show xv = ((xn + m : Nat) : Int) by omega)
             by_cases z3 : yv = (yn : Int) + (m : Int)
             ·have z3b : (yv == (yn : Int) + (m : Int)) = true := by simpa using z3
              have Z3 := Aside0.mk (show yv = ((yn + m : Nat) : Int) by omega)
              clear z2 z3
              go_quiet (fail)
              go_wp2
              go_meet
              exact ⟨congrArg Value.bool (by rw [HE2.out, decide_eq_true Z2.out, decide_eq_true Z3.out]; rfl), _, drewN2 _ _ _⟩
             ·have z3b : (yv == (yn : Int) + (m : Int)) = false := by simpa using z3
              have Z3 := Aside0.mk (show ¬ yv = ((yn + m : Nat) : Int) by omega)
              clear z2 z3
              go_quiet (fail)
              go_wp2
              go_meet
              exact ⟨congrArg Value.bool (by rw [HE2.out, decide_eq_false Z3.out, Bool.and_false]), _, drewN2 _ _ _⟩
            ·have z2b : (xv == (xn : Int) + (m : Int)) = false := by simpa using z2
             have Z2 := Aside0.mk (show ¬ xv = ((xn + m : Nat) : Int) by omega)
             clear z2
             go_quiet (fail)
             go_wp2
             go_meet
             exact ⟨congrArg Value.bool (by rw [HE2.out, decide_eq_false Z2.out, Bool.false_and]), _, drewN2 _ _ _⟩
           ·have z1b : decide ((i : Int) + (m : Int) < (l0.length : Int)) = false := decide_eq_false (by omega)
            have HE2 := Aside0.mk (show mruns x y l0.length i m = false by rw [HE.out, decide_eq_false z1]; rfl)
            go_quiet (fail)
            go_wp2
            go_meet
            exact ⟨congrArg Value.bool HE2.out.symm, _, drewN2 _ _ _⟩
          case rest =>
           obtain ⟨rfl, q', rfl⟩ := hcut
           have hr := HR.out
           clear hx0 hy0 HR
           cases hq : mruns x y l0.length i m with
           | true =>
            cases d with
            | zero =>
             exfalso
             simp only [mruns, Bool.and_eq_true, decide_eq_true_eq] at hq
             omega
            | succ d =>
             unfold mrun at hr
             rw [if_pos hq] at hr
             have him2 : i + (m + 1) ≤ l0.length := by
              simp only [mruns, Bool.and_eq_true, decide_eq_true_eq] at hq
              omega
             have HR' := Aside0.mk hr
             clear hr hq
             go_wp2
             go_roundg d
             case measure => omega
             case rel => exact ⟨d, m + 1, q', by go_num, rfl, by omega, by omega, him2, HR', rfl⟩
           | false =>
            have hm : m = M := by
             cases d with
             | zero => exact hr
             | succ d =>
              unfold mrun at hr
              rw [hq] at hr
              exact hr
            subst hm
            clear hr hq
            go_wp2
            go_meet
            exact ⟨rfl, _, rfl⟩
        case rest =>
         obtain ⟨rfl, q, hwc⟩ := hcut
         have hbq : Below w6.heap.size w6 wc.drew := by rw [hwc]; exact below_drew1 (pw_below_drewN (Below.refl _ _) q)
         have HBQ := Aside0.mk (Below.trans HBL6.out (Below.mono hbq (Below.size HBL6.out)))
         have hcl := cut.calls w4.heap.size w.heap.size (w.heap.size + 1) (w.heap.size + 1 + 1) wc.drew A0 c0 l0 A1 c1 l1 A2 c2 l2 (Kd.C_below T0.out HBQ.out) hc0 (Kd.C_below T1.out HBQ.out) hc1 (Kd.C_below T2.out HBQ.out) hc2 (by omega) (by omega) (by omega) (pc_keep (i := 0) HBQ.out (by have := LW.out; omega) KB.out) (pc_keep (i := 0) HBQ.out (by have := LW.out; omega) KU.out) (pc_keep (i := 0) HBQ.out (by have := LW.out; omega) KT.out) (by have := LW.out; omega) (by have := LW.out; omega) (by have := LW.out; omega) i xn yn (i + M) (xn + M) (yn + M) (by omega) (by omega) (by omega) o1 o2 (by omega) (St_below HP6.out.1 hbq) HC2.out
         simp only [Int.natCast_add] at hcl
         have HCL2 := Aside0.mk hcl
         have hx0 : wc.cell? (adX.add i) = some (.int .i64 (xn : Int)) := by
          have h := int_cell CX6.out i (by omega)
          rw [HXN.out] at h
          rw [hwc]
          exact h
         have hy0 : wc.cell? (adY.add i) = some (.int .i64 (yn : Int)) := by
          have h := int_cell CY6.out i (by omega)
          rw [HYN.out] at h
          rw [hwc]
          exact h
         clear hwc
         have j0 : IntKind.i64.wrap ((i : Int) + (M : Int)) = (i : Int) + (M : Int) := IntWalk.i64_in _ (by omega)
         have j3 : IntKind.i64.wrap ((xn : Int) + (M : Int)) = (xn : Int) + (M : Int) := IntWalk.i64_in _ (by omega)
         have j4 : IntKind.i64.wrap ((yn : Int) + (M : Int)) = (yn : Int) + (M : Int) := IntWalk.i64_in _ (by omega)
         clear hbq hcl
         go_upto_region 21 with fail
         go_still_tail 17, (by kernel_rfl)
         clear j0 j3 j4
         go_wp2_with (go_at_fn 27; (with_reducible refine HCL2.out.mono ?_); rintro e_ w8 ⟨rfl, hp⟩; have HP8 := Aside0.mk hp; clear hp)
         go_roundg n'
         case measure => omega
         case rel => exact ⟨n', i + M, (i + M, xn + M, yn + M), o2, rfl, by congr 1; omega, by omega, HG2, by omega, ⟨HP8.out.1⟩, ⟨Below.trans HBQ.out HP8.out.2⟩⟩
     ·have q1 : decide ((i : Int) < (l0.length : Int)) = false := decide_eq_false (by omega)
      have q2 : decide (i < l0.length) = false := decide_eq_false hlt
      rw [if_neg hlt] at hg
      obtain ⟨rfl, rfl⟩ := Prod.mk.inj (Option.some.inj hg)
      clear hg
      go_wp2
      go_meet
      exact ⟨HST, HBL, by omega⟩
   case rest =>
    obtain ⟨HST, HBL, hol⟩ := hcut
    have hB9 := pc_keep (i := 0) HBL.out (by have := LW.out; omega) KB.out
    have hU9 := pc_keep (i := 0) HBL.out (by have := LW.out; omega) KU.out
    have hT9 := pc_keep (i := 0) HBL.out (by have := LW.out; omega) KT.out
    have HCL := Aside0.mk (cut.calls w4.heap.size w.heap.size (w.heap.size + 1) (w.heap.size + 1 + 1) wc A0 c0 l0 A1 c1 l1 A2 c2 l2 (Kd.C_below T0.out HBL.out) hc0 (Kd.C_below T1.out HBL.out) hc1 (Kd.C_below T2.out HBL.out) hc2 (by omega) (by omega) (by omega) hB9 hU9 hT9 (by have := LW.out; omega) (by have := LW.out; omega) (by have := LW.out; omega) aF.1 aF.2.1 aF.2.2 l0.length l1.length l2.length (by omega) (by omega) (by omega) oF oR hol HST.out HCR.out)
    go_upto_region 24 with (go_at_fn 27; (with_reducible refine HCL.out.mono ?_); rintro e_ w9 ⟨rfl, hp⟩; have HP9 := Aside0.mk hp; clear hp)
    obtain ⟨vO, hO, hA, hS, hsz⟩ := HP9.out.1
    have hc9 := cell_of_one hO
    obtain ⟨AO, cO, rfl⟩ := Kd.S_slice hS
    have HS := Aside0.mk hS
    clear hO hA hS hsz
    go_wp2
    go_ret2
    exact ⟨_, rfl, Kd.S_lower HS.out (by have := LW.out; omega), Below.trans HB04.out (Below.mono (Below.trans HBL.out HP9.out.2) (by have := LW.out; omega))⟩
  ·cases hm
end Go.Proofs.Ytahpbpacjciddaa.Pr
end
section
namespace Go.Proofs.Ytahpbpacjciddaa.Pr
open Go.RowKit Go.Proofs.YtahpbpacjciddaaW.PrintWords Go.Proofs.YtahpbpacjciddaaW.PrintLast Go.Proofs.YtahpbpacjciddaaW.PrintMore
set_option linter.unusedVariables false
set_option linter.unusedSimpArgs false
def widey (s : ByteArray) : Bool := decide (2000 < s.size) || feedy s
theorem mplain1_any (s : ByteArray) (w : World) : Calls Try.prog 47 #[.string s] w fun e w' => e = .returned (.bool (widey s)) ∧ w' = w := by
 by_cases c : (s.size : Int) > 2000
 ·have c1 : decide ((s.size : Int) > 2000) = true := decide_eq_true c
  have c2 : decide ((2000 : Int) < (s.size : Int)) = true := decide_eq_true c
  have e1 : widey s = true := by unfold widey; rw [decide_eq_true (by omega)]; rfl
  rw [e1]
  clear e1 c
  go_enter Try.func47, Try.ntmps47
  go_wp2
  go_ret
  exact ⟨rfl, rfl⟩
 ·have c1 : decide ((s.size : Int) > 2000) = false := decide_eq_false c
  have c2 : decide ((2000 : Int) < (s.size : Int)) = false := decide_eq_false c
  have e1 : widey s = feedy s := by unfold widey; rw [decide_eq_false (by omega)]; rfl
  rw [e1]
  clear e1 c
  go_enter Try.func47, Try.ntmps47
  go_wp2_with (go_at_call 48; refine (Try.strings_IndexByte _ _ _).mono ?_; rintro e w' ⟨rfl, rfl⟩)
  go_ret
  exact ⟨rfl, rfl⟩
set_option maxHeartbeats 2000000 in
theorem mpidxf_any (A0 : Option Addr) (c0 : Nat) (l0 : List ByteArray) (w : World) (hr0 : Kd.C Kd.string w A0 l0.length l0) :
  Calls Try.prog 61 #[.slice A0 l0.length c0, .func (.func 47) #[] #[]] w fun e w' => e = .returned (.int .i64 (idxFrom widey l0 0)) ∧ Drawn0 w w' := by
 have hbig : l0.length ≤ 9223372036854775807 := hr0.2.1
 have eg : ∀ args w, (callFunc 47 args).run Try.prog w = .ok (.enter 47 args) w := enters_of Try.func47 (by kernel_rfl) rfl
 have HR0 := Aside0.mk hr0
 clear hr0
 go_enter Try.func61, Try.ntmps61
 go_wp2
 go_loopg [5, 8] l0.length (fun gg _ s8 wr => ∃ kk q : Nat, kk ≤ l0.length ∧ l0.length - kk ≤ gg ∧ s8 = .int .i64 kk ∧ wr = w.drewN q ∧ Aside0 (∀ j (hj : j < l0.length), j < kk → widey (l0[j]'hj) = false))
 case atStart => exact ⟨0, 0, Nat.zero_le _, by omega, rfl, rfl, ⟨fun j _ hj => absurd hj (Nat.not_lt_zero _)⟩⟩
 case round =>
  obtain ⟨kk, q, hkk, hg, rfl, rfl, HN⟩ := hrel
  by_cases hlt : kk < l0.length
  ·have hltz : (kk : Int) < (l0.length : Int) := by omega
   obtain ⟨ad, rfl, hcell⟩ := Kd.at_string HR0.out (kk : Int) (by omega) (by omega)
   simp only [Int.toNat_natCast] at hcell
   have hy0 : rdOf ByteArray.empty l0 (kk : Int) = l0[kk] := by simp [rdOf, hlt]
   rw [hy0] at hcell
   obtain ⟨y, hy⟩ : ∃ y, y = l0[kk] := ⟨_, rfl⟩
   rw [← hy] at hcell
   have HY := Aside0.mk hy
   clear hy hy0
   have hcall := mplain1_any y
   cases hq : widey y with
   | true =>
    rw [hq] at hcall
    go_wp2_with (go_at_fn 47; refine (hcall _).mono ?_; rintro e w' ⟨rfl, rfl⟩)
    go_ret
    refine ⟨?_, ⟨⟨_, rfl⟩⟩⟩
    rw [idxFrom_hit widey l0 0 kk hlt (fun j hj => HN.out j (by omega) hj) (by rw [← HY.out]; exact hq)]
    simp
   | false =>
    rw [hq] at hcall
    go_wp2_with (go_at_fn 47; refine (hcall _).mono ?_; rintro e w' ⟨rfl, rfl⟩)
    go_roundg (l0.length - (kk + 1))
    case measure => omega
    case rel =>
     refine ⟨kk + 1, _, by omega, by omega, by go_num, rfl, ⟨fun j hjl hj => ?_⟩⟩
     by_cases e : j = kk
     ·subst e
      rw [← HY.out]; exact hq
     ·exact HN.out j hjl (by omega)
  ·have hltz : ¬ (kk : Int) < (l0.length : Int) := by omega
   have hk : kk = l0.length := by omega
   have HK := Aside0.mk hk
   clear hk
   go_wp2
   go_ret
   refine ⟨?_, ⟨⟨q, rfl⟩⟩⟩
   rw [idxFrom_miss widey l0 0 (fun j hj => HN.out j hj (by rw [HK.out]; exact hj))]
   rfl
theorem mpcontains_any (A0 : Option Addr) (c0 : Nat) (l0 : List ByteArray) (w : World) (hr0 : Kd.C Kd.string w A0 l0.length l0) :
  Calls Try.prog 46 #[.slice A0 l0.length c0, .func (.func 47) #[] #[]] w fun e w' => e = .returned (.bool (l0.any widey)) ∧ Drawn0 w w' := by
 rw [← idxFrom_any widey l0 0]
 go_enter Try.func46, Try.ntmps46
 go_wp2_with (go_at_call 61; refine (mpidxf_any A0 c0 l0 _ hr0).mono ?_; rintro e w' ⟨rfl, ⟨q, rfl⟩⟩)
 go_ret
 exact ⟨rfl, ⟨⟨q, rfl⟩⟩⟩
def merge_plain.f (l0 : List ByteArray) : Option (Bool) := some (decide (l0.length ≤ 60) && !l0.any widey)
theorem merge_plain.calls (A0 : Option Addr) (c0 : Nat) (l0 : List ByteArray) (r : Bool) (w : World) (hr0 : Kd.C Kd.string w A0 l0.length l0) (hc0 : l0.length ≤ c0) (h : merge_plain.f l0 = some r) :
  Calls Try.prog 36 #[.slice A0 l0.length c0] w fun e w' => e = .returned (.bool r) ∧ Drawn0 w w' := by
 obtain rfl : (decide (l0.length ≤ 60) && !l0.any widey) = r := by simpa [merge_plain.f] using h
 clear h
 by_cases c : (l0.length : Int) ≤ 60
 ·have c1 : decide ((l0.length : Int) ≤ 60) = true := decide_eq_true c
  rw [decide_eq_true (show l0.length ≤ 60 by omega), Bool.true_and]
  clear c
  go_enter Try.func36, Try.ntmps36
  go_wp2_with (go_at_call 46; refine (mpcontains_any A0 c0 l0 _ hr0).mono ?_; rintro e w' ⟨rfl, ⟨q, rfl⟩⟩)
  go_ret
  exact ⟨rfl, ⟨⟨q, rfl⟩⟩⟩
 ·have c1 : decide ((l0.length : Int) ≤ 60) = false := decide_eq_false c
  rw [decide_eq_false (show ¬ l0.length ≤ 60 by omega), Bool.false_and]
  clear c
  go_enter Try.func36, Try.ntmps36
  go_wp2
  go_ret
  first | exact ⟨rfl, ⟨⟨0, rfl⟩⟩⟩ | exact ⟨rfl, ⟨⟨_, rfl⟩⟩⟩ | exact ⟨rfl, ⟨⟨0, by simp [World.drewN]⟩⟩⟩ | exact ⟨rfl, ⟨0, rfl⟩⟩
end Go.Proofs.Ytahpbpacjciddaa.Pr
end
