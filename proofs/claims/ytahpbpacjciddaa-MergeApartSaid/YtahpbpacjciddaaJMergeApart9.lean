/- Part 9 of the proof of MergeApart: texts put together. -/
import Derived.Test.YtahpbpacjciddaaJMergeApart4
import Derived.Test.YtahpbpacjciddaaJMergeApart5
import Derived.Test.YtahpbpacjciddaaJMergeApart8
import Derived.StillTailTactics
import Derived.IntWalk
import Derived.Deep.RegionHeld3
set_option linter.unusedVariables false
set_option linter.unusedSimpArgs false
section
namespace Go.Proofs.Ytahpbpacjciddaa.Pr
open Go.RowKit Go.Proofs.YtahpbpacjciddaaW.PrintWords Go.Proofs.YtahpbpacjciddaaW.PrintLast Go.Proofs.YtahpbpacjciddaaW.PrintMore
def mruns (x y : List Int) (n i m : Nat) : Bool := decide (i + m < n) && (decide (x.getD (i + m) 0 = x.getD i 0 + (m : Int)) && decide (y.getD (i + m) 0 = y.getD i 0 + (m : Int)))
def mrun (x y : List Int) (n i : Nat) : Nat → Nat → Nat
  | 0, m => m
  | d + 1, m => if mruns x y n i m = true then mrun x y n i d (m + 1) else m
def mboth (x y : List Int) (i : Nat) : Bool := decide (0 ≤ x.getD i 0) && decide (0 ≤ y.getD i 0)
def mgo (l0 l1 l2 : List ByteArray) (x y : List Int) : Nat → Nat → Nat × Nat × Nat → List S34 → Option ((Nat × Nat × Nat) × List S34)
  | 0, _, _, _ => none
  | f + 1, i, a, out =>
    if i < l0.length then
      if mboth x y i = true then
        (cutAt l0 l1 l2 a (i, (x.getD i 0).toNat, (y.getD i 0).toNat) out).bind fun o1 =>
          (cutAt l0 l1 l2 (i, (x.getD i 0).toNat, (y.getD i 0).toNat) (i + mrun x y l0.length i l0.length 1, (x.getD i 0).toNat + mrun x y l0.length i l0.length 1, (y.getD i 0).toNat + mrun x y l0.length i l0.length 1) o1).bind fun o2 =>
            mgo l0 l1 l2 x y f (i + mrun x y l0.length i l0.length 1) (i + mrun x y l0.length i l0.length 1, (x.getD i 0).toNat + mrun x y l0.length i l0.length 1, (y.getD i 0).toNat + mrun x y l0.length i l0.length 1) o2
      else mgo l0 l1 l2 x y f (i + 1) a out
    else some (a, out)
def mfits (n : Nat) (x : List Int) : Bool := decide (x.length = n) && x.all fun v => decide (-1 ≤ v) && decide (v ≤ 1000000)
def merge_Merge.g (l0 l1 l2 : List ByteArray) (x y : List Int × Int) : Option (List S34 × Int) :=
  if (mfits l0.length x.1 && mfits l0.length y.1 && decide (l0.length ≤ 400000) && decide (l1.length ≤ 400000) && decide (l2.length ≤ 400000)) = true then
    (mgo l0 l1 l2 x.1 y.1 (l0.length + 1) 0 (0, 0, 0) []).bind fun r => (cutAt l0 l1 l2 r.1 (l0.length, l1.length, l2.length) r.2).map fun out => (out, 0)
  else none
def mm3 (k : Nat) (l0 l1 l2 : List ByteArray) : Option (List S34 × Int) := (merge_pairs.f k l0 l1).bind fun x => (merge_pairs.f k l0 l2).bind fun y => merge_Merge.g l0 l1 l2 x y
def mm2 (k : Nat) (l0 l1 l2 : List ByteArray) : Option (List S34 × Int) := (lines_Join.f l2).bind fun j => if j.2 = 0 then mm3 k l0 l1 l2 else some ([], j.2)
def mm1 (k : Nat) (l0 l1 l2 : List ByteArray) : Option (List S34 × Int) := (lines_Join.f l1).bind fun j => if j.2 = 0 then mm2 k l0 l1 l2 else some ([], j.2)
def merge_Merge.f (k : Nat) (l0 l1 l2 : List ByteArray) : Option (List S34 × Int) := (lines_Join.f l0).bind fun j => if j.2 = 0 then mm1 k l0 l1 l2 else some ([], j.2)
def mmAt (k : Nat) (l0 l1 l2 : List ByteArray) : Nat → Option (List S34 × Int)
  | 0 => merge_Merge.f k l0 l1 l2
  | 1 => mm1 k l0 l1 l2
  | 2 => mm2 k l0 l1 l2
  | _ => mm3 k l0 l1 l2
theorem mfits_at {x : List Int} (h : (x.all fun v => decide (-1 ≤ v) && decide (v ≤ 1000000)) = true) {i : Nat} (hi : i < x.length) : -1 ≤ x.getD i 0 ∧ x.getD i 0 ≤ 1000000 := by
  rw [List.getD_eq_getElem?_getD, List.getElem?_eq_getElem hi]
  have := List.all_eq_true.1 h x[i] (List.getElem_mem hi)
  simpa using this
theorem mrun_ge (x y : List Int) (n i : Nat) : ∀ d m, m ≤ mrun x y n i d m
  | 0, _ => Nat.le_refl _
  | d + 1, m => by
    unfold mrun
    split
    · exact Nat.le_trans (Nat.le_succ m) (mrun_ge x y n i d (m + 1))
    · exact Nat.le_refl _
theorem mrun_le (x y : List Int) (n i : Nat) : ∀ d m, i + m ≤ n → i + mrun x y n i d m ≤ n
  | 0, _, h => h
  | d + 1, m, h => by
    unfold mrun
    split
    · rename_i hr
      simp only [mruns, Bool.and_eq_true, decide_eq_true_eq] at hr
      exact mrun_le x y n i d (m + 1) (by omega)
    · exact h
theorem cutAt_len {l0 l1 l2 : List ByteArray} {a t : Nat × Nat × Nat} {out o1 : List S34} (h : cutAt l0 l1 l2 a t out = some o1) : o1.length ≤ out.length + 1 := by
  unfold cutAt at h
  split at h
  · rw [← Option.some.inj h]; omega
  · split at h
    · rw [← Option.some.inj h]; simp
    · cases h
theorem int_cell {w : World} {ad : Addr} {n : Nat} {xs : List Int} (h : Kd.C (Kd.int .i64) w (some ad) n xs) (i : Nat) (hi : i < n) : w.cell? (ad.add i) = some (.int .i64 (xs.getD i 0)) := by
  obtain ⟨ad', e, hc⟩ := Kd.at_int h (i : Int) (by omega) (by omega)
  injection e with e
  subst e
  rw [Int.toNat_natCast] at hc
  rw [hc]
  unfold rd
  rw [Int.toNat_natCast]
theorem drewN2 (w : World) (a b : Nat) : (w.drewN a).drewN b = w.drewN (a + b) := World.drewN_drewN w a b
theorem mruns_eq {x y : List Int} {n i m xn yn : Nat} (hx : x.getD i 0 = (xn : Int)) (hy : y.getD i 0 = (yn : Int)) : mruns x y n i m = (decide (i + m < n) && (decide (x.getD (i + m) 0 = ((xn + m : Nat) : Int)) && decide (y.getD (i + m) 0 = ((yn + m : Nat) : Int)))) := by
  unfold mruns
  rw [hx, hy, ← Int.natCast_add, ← Int.natCast_add]
theorem St_below {W W' : World} {gO : Nat} {a : Nat × Nat × Nat} {out : List S34} (h : Cut.St W gO a out) (hb : Below W.heap.size W W') : Cut.St W' gO a out := by
  obtain ⟨v, h1, h2, h3, h4⟩ := h
  exact ⟨v, by rw [hb.block _ (by omega)]; exact h1, by rw [hb.block _ (by omega)]; exact h2, Kd.S_below h3 hb, Nat.le_trans h4 (Below.size hb)⟩
set_option maxHeartbeats 8000000 in
set_option maxRecDepth 100000 in
theorem merge_Merge.calls (k : Nat) (A0 : Option Addr) (c0 : Nat) (l0 : List ByteArray) (A1 : Option Addr) (c1 : Nat) (l1 : List ByteArray) (A2 : Option Addr) (c2 : Nat) (l2 : List ByteArray) (r1 : List S34) (r2 : Int) (w : World) (hr0 : Kd.C Kd.string w A0 l0.length l0) (hc0 : l0.length ≤ c0) (hr1 : Kd.C Kd.string w A1 l1.length l1) (hc1 : l1.length ≤ c1) (hr2 : Kd.C Kd.string w A2 l2.length l2) (hc2 : l2.length ≤ c2) (h : merge_Merge.f k l0 l1 l2 = some (r1, r2)) :
  Calls Try.prog 9 #[.slice A0 l0.length c0, .slice A1 l1.length c1, .slice A2 l2.length c2] w fun e w' => ∃ v0_ : Value, e = .returned (.tuple #[v0_, .int .i64 r2]) ∧ Kd.S k34 34 w' w.heap.size (fun _ => True) v0_ r1 ∧ Below w.heap.size w w' := by
 have i0 : ∀ (x y z : Value) W, (Instr.index 47 (.agg #[x, y, z]) (.int .i64 0)).run Try.prog W = .ok x W := fun x y z W => by kernel_rfl
 have i1 : ∀ (x y z : Value) W, (Instr.index 47 (.agg #[x, y, z]) (.int .i64 1)).run Try.prog W = .ok y W := fun x y z W => by kernel_rfl
 have i2 : ∀ (x y z : Value) W, (Instr.index 47 (.agg #[x, y, z]) (.int .i64 2)).run Try.prog W = .ok z W := fun x y z W => by kernel_rfl
 have HR0 := Aside0.mk hr0
 have HR1 := Aside0.mk hr1
 have HR2 := Aside0.mk hr2
 have H0 := Aside0.mk (show mmAt k l0 l1 l2 0 = some (r1, r2) from h)
 obtain ⟨wB, hwB⟩ : ∃ wB, wB = ((w.alloc (.cells #[.slice A0 l0.length c0] 22)).alloc (.cells #[.slice A1 l1.length c1] 22)).alloc (.cells #[.slice A2 l2.length c2] 22) := ⟨_, rfl⟩
 have HBW := Aside0.mk (show Below w.heap.size w wB by rw [hwB]; exact (((Below.refl _ _).alloc (Nat.le_refl _) _).alloc (by simp) _).alloc (by simp; omega) _)
 have KB := Aside0.mk (show wB.cell? ⟨w.heap.size, 0, none⟩ = some (.slice A0 l0.length c0) by rw [hwB]; go_simp)
 have KU := Aside0.mk (show wB.cell? ⟨w.heap.size + 1, 0, none⟩ = some (.slice A1 l1.length c1) by rw [hwB]; go_simp)
 have KT := Aside0.mk (show wB.cell? ⟨w.heap.size + 1 + 1, 0, none⟩ = some (.slice A2 l2.length c2) by rw [hwB]; go_simp)
 have LB := Aside0.mk (show wB.heap.size = w.heap.size + 3 by rw [hwB]; simp)
 have eg : ∀ args w, (callFunc 27 args).run Try.prog w = .ok (.enter 27 args) w := enters_of Try.func27 (by kernel_rfl) rfl
 clear hr0 hr1 hr2 h
 go_enter Try.func9, Try.ntmps9
 go_upto_block 0 with fail
 rw [← hwB]
 clear hwB
 go_cut [] (fun wx => Aside0 (mmAt k l0 l1 l2 3 = some (r1, r2)) ∧ Aside0 (Below wB.heap.size wB wx))
 case first =>
  go_wp2_with fail
  go_loopg [25] 3 (fun nq v25 wr => ∃ j : Nat, v25 = .int .i64 (j : Int) ∧ j ≤ 3 ∧ 3 - j ≤ nq ∧ Aside0 (mmAt k l0 l1 l2 j = some (r1, r2)) ∧ Aside0 (Below wB.heap.size wB wr))
  case atStart => exact ⟨0, rfl, by omega, by omega, H0, ⟨Below.refl _ _⟩⟩
  case round =>
   clear H0
   obtain ⟨j, rfl, hj, hjq, HM, HBX⟩ := hrel
   have hcase : j = 0 ∨ j = 1 ∨ j = 2 ∨ j = 3 := by omega
   rcases hcase with rfl | rfl | rfl | rfl
   ·obtain ⟨⟨q, e⟩, hq, hm⟩ := Option.bind_eq_some_iff.1 (show merge_Merge.f k l0 l1 l2 = some (r1, r2) from HM.out)
    have HQ := Aside0.mk hq
    have HC := Aside0.mk (Kd.C_below (Kd.C_below HR0.out HBW.out) HBX.out)
    dsimp only at hm
    clear hq HM
    by_cases he : e = 0
    ·subst he
     rw [if_pos rfl] at hm
     have HM' := Aside0.mk hm
     clear hm
     go_wp2_with (go_at_call 25; (with_reducible refine (lines_Join.calls A0 c0 l0 q 0 _ HC.out hc0 HQ.out).mono ?_); rintro e_ w1 ⟨v6, rfl, hv6, hb1⟩; obtain ⟨A6, c6, rfl⟩ := Kd.V_slice hv6; have HB1 := Aside0.mk (Below.trans HBX.out (Below.mono hb1 (Below.size HBX.out))); clear hv6 hb1)
     go_roundg 2
     case measure => omega
     case rel => exact ⟨1, rfl, by omega, by omega, HM', HB1⟩
    ·rw [if_neg he] at hm
     obtain ⟨rfl, rfl⟩ := Prod.mk.inj (Option.some.inj hm)
     clear hm
     have e1 : (e == 0) = false := by simpa using he
     have e2 : (e != 0) = true := by simpa using he
     go_wp2_with (go_at_call 25; (with_reducible refine (lines_Join.calls A0 c0 l0 q e _ HC.out hc0 HQ.out).mono ?_); rintro e_ w1 ⟨v6, rfl, hv6, hb1⟩; obtain ⟨A6, c6, rfl⟩ := Kd.V_slice hv6; have HB1 := Aside0.mk (Below.trans HBX.out (Below.mono hb1 (Below.size HBX.out))); clear hv6 hb1)
     go_ret2
     exact ⟨_, rfl, Kd.S_nil _ _ _ _ _, Below.trans HBW.out (Below.mono HB1.out (Below.size HBW.out))⟩
   ·obtain ⟨⟨q, e⟩, hq, hm⟩ := Option.bind_eq_some_iff.1 (show mm1 k l0 l1 l2 = some (r1, r2) from HM.out)
    have HQ := Aside0.mk hq
    have HC := Aside0.mk (Kd.C_below (Kd.C_below HR1.out HBW.out) HBX.out)
    dsimp only at hm
    clear hq HM
    by_cases he : e = 0
    ·subst he
     rw [if_pos rfl] at hm
     have HM' := Aside0.mk hm
     clear hm
     go_wp2_with (go_at_call 25; (with_reducible refine (lines_Join.calls A1 c1 l1 q 0 _ HC.out hc1 HQ.out).mono ?_); rintro e_ w1 ⟨v6, rfl, hv6, hb1⟩; obtain ⟨A6, c6, rfl⟩ := Kd.V_slice hv6; have HB1 := Aside0.mk (Below.trans HBX.out (Below.mono hb1 (Below.size HBX.out))); clear hv6 hb1)
     go_roundg 1
     case measure => omega
     case rel => exact ⟨2, rfl, by omega, by omega, HM', HB1⟩
    ·rw [if_neg he] at hm
     obtain ⟨rfl, rfl⟩ := Prod.mk.inj (Option.some.inj hm)
     clear hm
     have e1 : (e == 0) = false := by simpa using he
     have e2 : (e != 0) = true := by simpa using he
     go_wp2_with (go_at_call 25; (with_reducible refine (lines_Join.calls A1 c1 l1 q e _ HC.out hc1 HQ.out).mono ?_); rintro e_ w1 ⟨v6, rfl, hv6, hb1⟩; obtain ⟨A6, c6, rfl⟩ := Kd.V_slice hv6; have HB1 := Aside0.mk (Below.trans HBX.out (Below.mono hb1 (Below.size HBX.out))); clear hv6 hb1)
     go_ret2
     exact ⟨_, rfl, Kd.S_nil _ _ _ _ _, Below.trans HBW.out (Below.mono HB1.out (Below.size HBW.out))⟩
   ·obtain ⟨⟨q, e⟩, hq, hm⟩ := Option.bind_eq_some_iff.1 (show mm2 k l0 l1 l2 = some (r1, r2) from HM.out)
    have HQ := Aside0.mk hq
    have HC := Aside0.mk (Kd.C_below (Kd.C_below HR2.out HBW.out) HBX.out)
    dsimp only at hm
    clear hq HM
    by_cases he : e = 0
    ·subst he
     rw [if_pos rfl] at hm
     have HM' := Aside0.mk hm
     clear hm
     go_wp2_with (go_at_call 25; (with_reducible refine (lines_Join.calls A2 c2 l2 q 0 _ HC.out hc2 HQ.out).mono ?_); rintro e_ w1 ⟨v6, rfl, hv6, hb1⟩; obtain ⟨A6, c6, rfl⟩ := Kd.V_slice hv6; have HB1 := Aside0.mk (Below.trans HBX.out (Below.mono hb1 (Below.size HBX.out))); clear hv6 hb1)
     go_roundg 0
     case measure => omega
     case rel => exact ⟨3, rfl, by omega, by omega, HM', HB1⟩
    ·rw [if_neg he] at hm
     obtain ⟨rfl, rfl⟩ := Prod.mk.inj (Option.some.inj hm)
     clear hm
     have e1 : (e == 0) = false := by simpa using he
     have e2 : (e != 0) = true := by simpa using he
     go_wp2_with (go_at_call 25; (with_reducible refine (lines_Join.calls A2 c2 l2 q e _ HC.out hc2 HQ.out).mono ?_); rintro e_ w1 ⟨v6, rfl, hv6, hb1⟩; obtain ⟨A6, c6, rfl⟩ := Kd.V_slice hv6; have HB1 := Aside0.mk (Below.trans HBX.out (Below.mono hb1 (Below.size HBX.out))); clear hv6 hb1)
     go_ret2
     exact ⟨_, rfl, Kd.S_nil _ _ _ _ _, Below.trans HBW.out (Below.mono HB1.out (Below.size HBW.out))⟩
   ·go_wp2
    go_meet
    exact ⟨HM, HBX⟩
 case rest =>
  obtain ⟨HM, HBX⟩ := hcut
  obtain ⟨⟨x, ex⟩, hx, hm⟩ := Option.bind_eq_some_iff.1 (show mm3 k l0 l1 l2 = some (r1, r2) from HM.out)
  obtain ⟨⟨y, ey⟩, hy, hm⟩ := Option.bind_eq_some_iff.1 hm
  unfold merge_Merge.g at hm
  dsimp only at hm
  split at hm
  ·rename_i hcond
   simp only [Bool.and_eq_true, decide_eq_true_eq] at hcond
   obtain ⟨⟨⟨⟨fx, fy⟩, hn0⟩, hn1⟩, hn2⟩ := hcond
   obtain ⟨⟨aF, oF⟩, hgo, hm⟩ := Option.bind_eq_some_iff.1 hm
   obtain ⟨oR, hcR, hm⟩ := Option.map_eq_some_iff.1 hm
   obtain ⟨rfl, rfl⟩ := Prod.mk.inj hm
   dsimp only at hcR
   have HX := Aside0.mk hx
   have HY := Aside0.mk hy
   have FX := Aside0.mk fx
   have FY := Aside0.mk fy
   have HGO := Aside0.mk hgo
   have HCR := Aside0.mk hcR
   clear hx hy fx fy hgo hcR hm HM H0
   obtain ⟨wx, rfl⟩ : ∃ wx, wx = wc := ⟨_, rfl⟩
   have hB := pc_keep HBX.out (by have := LB.out; omega) KB.out
   have hU := pc_keep HBX.out (by have := LB.out; omega) KU.out
   have hT := pc_keep HBX.out (by have := LB.out; omega) KT.out
   have S0 := Aside0.mk (Kd.C_below (Kd.C_below HR0.out HBW.out) HBX.out)
   have S1 := Aside0.mk (Kd.C_below (Kd.C_below HR1.out HBW.out) HBX.out)
   have S2 := Aside0.mk (Kd.C_below (Kd.C_below HR2.out HBW.out) HBX.out)
   have LX := Aside0.mk (show w.heap.size + 3 ≤ wx.heap.size by have := LB.out; have := Below.size HBX.out; omega)
   have HBX' := Aside0.mk (Below.trans HBW.out (Below.mono HBX.out (Below.size HBW.out)))
   clear HBX KB KU KT LB HR0 HR1 HR2 HBW
   go_upto_region 9 with (go_at_call 26; (with_reducible refine (merge_pairs.calls k A0 c0 l0 A1 c1 l1 x ex _ S0.out hc0 S1.out hc1 HX.out).mono ?_); rintro e_ w3 ⟨v12, rfl, hv12, hb3⟩; obtain ⟨AX, cX, rfl⟩ := Kd.R_slice hv12; have V12 := Aside0.mk hv12; have HB3 := Aside0.mk hb3; clear hv12 hb3)
   have hB3 := pc_keep HB3.out (by have := LX.out; omega) hB
   have hU3 := pc_keep HB3.out (by have := LX.out; omega) hU
   have hT3 := pc_keep HB3.out (by have := LX.out; omega) hT
   clear hB hU hT
   go_upto_region 10 with (go_at_call 26; (with_reducible refine (merge_pairs.calls k A0 c0 l0 A2 c2 l2 y ey _ (Kd.C_below S0.out HB3.out) hc0 (Kd.C_below S2.out HB3.out) hc2 HY.out).mono ?_); rintro e_ w4 ⟨v14, rfl, hv14, hb4⟩; obtain ⟨AY, cY, rfl⟩ := Kd.R_slice hv14; have V14 := Aside0.mk hv14; have HB4 := Aside0.mk hb4; clear hv14 hb4)
   have hB4 := pc_keep HB4.out (by have := LX.out; have := Below.size HB3.out; omega) hB3
   have hU4 := pc_keep HB4.out (by have := LX.out; have := Below.size HB3.out; omega) hU3
   have hT4 := pc_keep HB4.out (by have := LX.out; have := Below.size HB3.out; omega) hT3
   clear hB3 hU3 hT3
   have CX := (Kd.C_below (Kd.R_reads' V12.out).2.2 HB4.out)
   have CY := (Kd.R_reads' V14.out).2.2
   have hB34 := Below.trans HB3.out (Below.mono HB4.out (Below.size HB3.out))
   have T0 := Aside0.mk (Kd.C_below S0.out hB34)
   have T1 := Aside0.mk (Kd.C_below S1.out hB34)
   have T2 := Aside0.mk (Kd.C_below S2.out hB34)
   have LW := Aside0.mk (show w.heap.size + 3 ≤ w4.heap.size by have := LX.out; have := Below.size hB34; omega)
   have HB04 := Aside0.mk (Below.trans HBX'.out (Below.mono hB34 (Below.size HBX'.out)))
   have KB := Aside0.mk hB4
   have KU := Aside0.mk hU4
   have KT := Aside0.mk hT4
   simp only [mfits, Bool.and_eq_true, decide_eq_true_eq] at FX FY
   obtain ⟨fx1, fx2⟩ := FX.out
   obtain ⟨fy1, fy2⟩ := FY.out
   rw [fx1] at CX
   rw [fy1] at CY
   simp only [fx1, fy1]
   have CX := Aside0.mk CX
   have CY := Aside0.mk CY
   have LXN := Aside0.mk fx1
   have LYN := Aside0.mk fy1
   have GX := Aside0.mk fx2
   have GY := Aside0.mk fy2
   clear fx1 fy1 hB4 hU4 hT4 V12 V14 HB3 HB4 S0 S1 S2 LX HBX' hB34 FX FY fx2 fy2 HX HY
   go_upto_block 2 with fail
   obtain ⟨wL, hwL⟩ : ∃ wL, wL = (w4.alloc (Obj.cells #[Value.slice none 0 0] 24)).alloc (Obj.cells #[Value.int IntKind.i64 0, Value.int IntKind.i64 0, Value.int IntKind.i64 0] 54) := ⟨_, rfl⟩
   have HBL0 := Aside0.mk (show Below w4.heap.size w4 wL by rw [hwL]; exact ((Below.refl _ _).alloc (Nat.le_refl _) _).alloc (by simp) _)
   have HST0 := Aside0.mk (show Cut.St wL w4.heap.size (0, 0, 0) [] by
    refine ⟨.slice none 0 0, ?_, ?_, Kd.S_nil _ _ _ _ _, ?_⟩
    ·rw [hwL, Below.heap_alloc _ _ _ (by simp)]
     exact Go.heap_alloc_new w4 _
    ·rw [hwL]
     have h := Go.heap_alloc_new (w4.alloc (Obj.cells #[Value.slice none 0 0] 24)) (Obj.cells #[Value.int IntKind.i64 0, Value.int IntKind.i64 0, Value.int IntKind.i64 0] 54)
     rw [World.size_alloc] at h
     exact h
    ·rw [hwL]; simp)
   rw [← hwL]
   clear hwL
   go_cut [] (fun wy => Aside0 (Cut.St wy w4.heap.size aF oF) ∧ Aside0 (Below w4.heap.size w4 wy) ∧ oF.length ≤ 1000000)
   case first =>
    go_wp2_with fail
    go_loopg [19] (l0.length + 1) (fun nq v19 wr => ∃ (n i : Nat) (a : Nat × Nat × Nat) (out : List S34), n = nq ∧ v19 = .int .i64 (i : Int) ∧ i ≤ l0.length ∧ Aside0 (mgo l0 l1 l2 x y n i a out = some (aF, oF)) ∧ out.length ≤ 2 * i ∧ Aside0 (Cut.St wr w4.heap.size a out) ∧ Aside0 (Below w4.heap.size w4 wr))
    case atStart => exact ⟨_, 0, (0, 0, 0), [], rfl, rfl, by omega, HGO, by simp, HST0, HBL0⟩
    case round =>
     clear HGO HST0 HBL0
     obtain ⟨n, i, a, out, rfl, rfl, hi, HG, hol, HST, HBL⟩ := hrel
     obtain ⟨n', rfl⟩ : ∃ n', n = n' + 1 := by
      cases n with
      | zero => exact absurd HG.out (by simp [mgo])
      | succ n => exact ⟨n, rfl⟩
     have hBr := pc_keep HBL.out (by have := LW.out; omega) KB.out
     have hg := HG.out
     unfold mgo at hg
     by_cases hlt : i < l0.length
     ·have q1 : decide ((i : Int) < (l0.length : Int)) = true := decide_eq_true (by omega)
      have q2 : decide (i < l0.length) = true := decide_eq_true hlt
      rw [if_pos hlt] at hg
      have HG' := Aside0.mk hg
      clear hg
      obtain ⟨adX, rfl, hcx⟩ := Kd.at_int (Kd.C_below CX.out HBL.out) (i : Int) (by omega) (by omega)
      obtain ⟨adY, rfl, hcy⟩ := Kd.at_int (Kd.C_below CY.out HBL.out) (i : Int) (by omega) (by omega)
      rw [Int.toNat_natCast] at hcx hcy
      have ex1 : rd x (i : Int) = x.getD i 0 := by unfold rd; rw [Int.toNat_natCast]
      have ey1 : rd y (i : Int) = y.getD i 0 := by unfold rd; rw [Int.toNat_natCast]
      rw [ex1] at hcx
      rw [ey1] at hcy
      clear ex1 ey1
      have bx := mfits_at GX.out (show i < x.length by have := LXN.out; omega)
      have by_ := mfits_at GY.out (show i < y.length by have := LYN.out; omega)
      go_upto_region 16 with fail
      go_cut [68] (fun s68 wc => s68 = .bool (!mboth x y i) ∧ wc = wr)
      case first =>
       obtain ⟨xi, hxi⟩ : ∃ xi, xi = x.getD i 0 := ⟨_, rfl⟩
       obtain ⟨yi, hyi⟩ : ∃ yi, yi = y.getD i 0 := ⟨_, rfl⟩
       have HE := Aside0.mk (show mboth x y i = (decide (0 ≤ xi) && decide (0 ≤ yi)) by rw [hxi, hyi]; rfl)
       rw [← hxi] at hcx bx
       rw [← hyi] at hcy by_
       clear hxi hyi
       by_cases z1 : xi < 0
       ·have z1b : decide (xi < 0) = true := decide_eq_true z1
        go_wp2
        go_meet
        exact ⟨congrArg Value.bool (by rw [HE.out, decide_eq_false (by omega), Bool.false_and]; rfl), rfl⟩
       ·have z1b : decide (xi < 0) = false := decide_eq_false z1
        by_cases z2 : yi < 0
        ·have z2b : decide (yi < 0) = true := decide_eq_true z2
         go_wp2
         go_meet
         exact ⟨congrArg Value.bool (by rw [HE.out, decide_eq_false (p := 0 ≤ yi) (by omega), Bool.and_false]; rfl), rfl⟩
        ·have z2b : decide (yi < 0) = false := decide_eq_false z2
         go_wp2
         go_meet
         exact ⟨congrArg Value.bool (by rw [HE.out, decide_eq_true (p := 0 ≤ yi) (by omega), decide_eq_true (p := 0 ≤ xi) (by omega)]; rfl), rfl⟩
      case rest =>
       obtain ⟨rfl, hwc⟩ := hcut
       subst wc
       have hg := HG'.out
       cases hq : mboth x y i with
       | false =>
        rw [hq, if_neg Bool.false_ne_true] at hg
        have HG2 := Aside0.mk hg
        rw [Bool.not_false]
        clear hg hq HG'
        go_wp2
        go_roundg n'
        case measure => omega
        case rel => exact ⟨n', i + 1, a, out, rfl, by go_num, by omega, HG2, by omega, HST, HBL⟩
       | true =>
        rw [hq, if_pos rfl] at hg
        obtain ⟨o1, hz1, hg⟩ := Option.bind_eq_some_iff.1 hg
        obtain ⟨o2, hz2, hg⟩ := Option.bind_eq_some_iff.1 hg
        have z := hq
        simp only [mboth, Bool.and_eq_true, decide_eq_true_eq] at z
        obtain ⟨xn, hxn⟩ := Int.eq_ofNat_of_zero_le z.1
        obtain ⟨yn, hyn⟩ := Int.eq_ofNat_of_zero_le z.2
        rw [hxn] at hcx bx
        rw [hyn] at hcy by_
        rw [hxn, hyn] at hz1 hz2 hg
        simp only [Int.toNat_natCast] at hz1 hz2 hg
        obtain ⟨M, hM⟩ : ∃ M, M = mrun x y l0.length i l0.length 1 := ⟨_, rfl⟩
        rw [← hM] at hz2 hg
        have hM1 := mrun_ge x y l0.length i l0.length 1
        have hM2 := mrun_le x y l0.length i l0.length 1 (by omega)
        rw [← hM] at hM1 hM2
        have HM1 := Aside0.mk hM
        have HC1 := Aside0.mk hz1
        have HC2 := Aside0.mk hz2
        have HG2 := Aside0.mk hg
        have HXN := Aside0.mk hxn
        have HYN := Aside0.mk hyn
        have hol1 : o1.length ≤ out.length + 1 := cutAt_len hz1
        have hol2 : o2.length ≤ o1.length + 1 := cutAt_len hz2
        have HCL := Aside0.mk (cut.calls w4.heap.size w.heap.size (w.heap.size + 1) (w.heap.size + 1 + 1) wr.drew A0 c0 l0 A1 c1 l1 A2 c2 l2 (Kd.C_drew (Kd.C_below T0.out HBL.out)) hc0 (Kd.C_drew (Kd.C_below T1.out HBL.out)) hc1 (Kd.C_drew (Kd.C_below T2.out HBL.out)) hc2 (by omega) (by omega) (by omega) (pc_keep (i := 0) HBL.out (by have := LW.out; omega) KB.out) (pc_keep (i := 0) HBL.out (by have := LW.out; omega) KU.out) (pc_keep (i := 0) HBL.out (by have := LW.out; omega) KT.out) (by have := LW.out; omega) (by have := LW.out; omega) (by have := LW.out; omega) a.1 a.2.1 a.2.2 i xn yn (by omega) (by omega) (by omega) out o1 (by omega) HST.out HC1.out)
        clear hg hz1 hz2 hxn hyn hM z hq HG'
        rw [Bool.not_true]
        go_upto_region 17 with fail
        go_still_tail 11, (by kernel_rfl)
        go_upto_block 4 with (go_at_fn 27; (with_reducible refine HCL.out.mono ?_); rintro e_ w6 ⟨rfl, hp⟩; have HP6 := Aside0.mk hp; clear hp)
        have HBL6 := Aside0.mk (Below.trans HBL.out (Below.trans (below_drew1 (Below.refl _ _)) HP6.out.2))
        have hB6 := pc_keep (i := 0) HBL6.out (by have := LW.out; omega) KB.out
        have CX6 := Aside0.mk (Kd.C_below CX.out HBL6.out)
        have CY6 := Aside0.mk (Kd.C_below CY.out HBL6.out)
        clear hBr hcx hcy HCL
        go_cut [20] (fun v20 wz => v20 = .int .i64 (M : Int) ∧ ∃ q, wz = w6.drewN q)
        case first =>
         go_wp2_with fail
         go_loopg [20] l0.length (fun nq2 v20 w7 => ∃ d m q : Nat, v20 = .int .i64 (m : Int) ∧ d = nq2 ∧ m + d = l0.length + 1 ∧ 1 ≤ m ∧ i + m ≤ l0.length ∧ Aside0 (mrun x y l0.length i d m = M) ∧ w7 = w6.drewN q)
         case atStart => exact ⟨_, 1, 0, rfl, rfl, by omega, by omega, by omega, ⟨HM1.out.symm⟩, rfl⟩
         case round =>
          obtain ⟨d, m, q, rfl, rfl, hmd, hm1, him, HR, rfl⟩ := hrel
          have hx0 := int_cell CX6.out i (by omega)
          have hy0 := int_cell CY6.out i (by omega)
          rw [HXN.out] at hx0
          rw [HYN.out] at hy0
          go_upto_region 19 with fail
          go_cut [116] (fun s116 wz => s116 = .bool (mruns x y l0.length i m) ∧ ∃ q, wz = w6.drewN q)
          case first =>
           have HE := Aside0.mk (mruns_eq (n := l0.length) (m := m) HXN.out HYN.out)
           have j0 : IntKind.i64.wrap ((i : Int) + (m : Int)) = (i : Int) + (m : Int) := IntWalk.i64_in _ (by omega)
           have j1 : ((i : Int) + (m : Int)).toNat = i + m := by omega
           have j2 : (0 : Int) ≤ (i : Int) + (m : Int) := by omega
           by_cases z1 : i + m < l0.length
           ·have z1b : decide ((i : Int) + (m : Int) < (l0.length : Int)) = true := decide_eq_true (by omega)
            have z1c : (i : Int) + (m : Int) < (l0.length : Int) := by omega
            have hx1 := int_cell CX6.out (i + m) z1
            have hy1 := int_cell CY6.out (i + m) z1
            obtain ⟨xv, hxv⟩ : ∃ v, v = x.getD (i + m) 0 := ⟨_, rfl⟩
            obtain ⟨yv, hyv⟩ : ∃ v, v = y.getD (i + m) 0 := ⟨_, rfl⟩
            rw [← hxv] at hx1
            rw [← hyv] at hy1
            have HE2 := Aside0.mk (show mruns x y l0.length i m = (decide (xv = ((xn + m : Nat) : Int)) && decide (yv = ((yn + m : Nat) : Int))) by rw [HE.out, ← hxv, ← hyv, decide_eq_true z1, Bool.true_and])
            clear hxv hyv
            have j3 : IntKind.i64.wrap ((xn : Int) + (m : Int)) = (xn : Int) + (m : Int) := IntWalk.i64_in _ (by omega)
            have j4 : IntKind.i64.wrap ((yn : Int) + (m : Int)) = (yn : Int) + (m : Int) := IntWalk.i64_in _ (by omega)
            by_cases z2 : xv = (xn : Int) + (m : Int)
            ·have z2b : (xv == (xn : Int) + (m : Int)) = true := by simpa using z2
             have Z2 := Aside0.mk (show xv = ((xn + m : Nat) : Int) by omega)
             by_cases z3 : yv = (yn : Int) + (m : Int)
             ·have z3b : (yv == (yn : Int) + (m : Int)) = true := by simpa using z3
              have Z3 := Aside0.mk (show yv = ((yn + m : Nat) : Int) by omega)
              clear z2 z3
              go_quiet (fail)
              go_wp2
              go_meet
              exact ⟨congrArg Value.bool (by rw [HE2.out, decide_eq_true Z2.out, decide_eq_true Z3.out]; rfl), _, drewN2 _ _ _⟩
             ·have z3b : (yv == (yn : Int) + (m : Int)) = false := by simpa using z3
              have Z3 := Aside0.mk (show ¬ yv = ((yn + m : Nat) : Int) by omega)
              clear z2 z3
              go_quiet (fail)
              go_wp2
              go_meet
              exact ⟨congrArg Value.bool (by rw [HE2.out, decide_eq_false Z3.out, Bool.and_false]), _, drewN2 _ _ _⟩
            ·have z2b : (xv == (xn : Int) + (m : Int)) = false := by simpa using z2
             have Z2 := Aside0.mk (show ¬ xv = ((xn + m : Nat) : Int) by omega)
             clear z2
             go_quiet (fail)
             go_wp2
             go_meet
             exact ⟨congrArg Value.bool (by rw [HE2.out, decide_eq_false Z2.out, Bool.false_and]), _, drewN2 _ _ _⟩
           ·have z1b : decide ((i : Int) + (m : Int) < (l0.length : Int)) = false := decide_eq_false (by omega)
            have HE2 := Aside0.mk (show mruns x y l0.length i m = false by rw [HE.out, decide_eq_false z1]; rfl)
            go_quiet (fail)
            go_wp2
            go_meet
            exact ⟨congrArg Value.bool HE2.out.symm, _, drewN2 _ _ _⟩
          case rest =>
           obtain ⟨rfl, q', rfl⟩ := hcut
           have hr := HR.out
           clear hx0 hy0 HR
           cases hq : mruns x y l0.length i m with
           | true =>
            cases d with
            | zero =>
             exfalso
             simp only [mruns, Bool.and_eq_true, decide_eq_true_eq] at hq
             omega
            | succ d =>
             unfold mrun at hr
             rw [if_pos hq] at hr
             have him2 : i + (m + 1) ≤ l0.length := by
              simp only [mruns, Bool.and_eq_true, decide_eq_true_eq] at hq
              omega
             have HR' := Aside0.mk hr
             clear hr hq
             go_wp2
             go_roundg d
             case measure => omega
             case rel => exact ⟨d, m + 1, q', by go_num, rfl, by omega, by omega, him2, HR', rfl⟩
           | false =>
            have hm : m = M := by
             cases d with
             | zero => exact hr
             | succ d =>
              unfold mrun at hr
              rw [hq] at hr
              exact hr
            subst hm
            clear hr hq
            go_wp2
            go_meet
            exact ⟨rfl, _, rfl⟩
        case rest =>
         obtain ⟨rfl, q, hwc⟩ := hcut
         have hbq : Below w6.heap.size w6 wc.drew := by rw [hwc]; exact below_drew1 (pw_below_drewN (Below.refl _ _) q)
         have HBQ := Aside0.mk (Below.trans HBL6.out (Below.mono hbq (Below.size HBL6.out)))
         have hcl := cut.calls w4.heap.size w.heap.size (w.heap.size + 1) (w.heap.size + 1 + 1) wc.drew A0 c0 l0 A1 c1 l1 A2 c2 l2 (Kd.C_below T0.out HBQ.out) hc0 (Kd.C_below T1.out HBQ.out) hc1 (Kd.C_below T2.out HBQ.out) hc2 (by omega) (by omega) (by omega) (pc_keep (i := 0) HBQ.out (by have := LW.out; omega) KB.out) (pc_keep (i := 0) HBQ.out (by have := LW.out; omega) KU.out) (pc_keep (i := 0) HBQ.out (by have := LW.out; omega) KT.out) (by have := LW.out; omega) (by have := LW.out; omega) (by have := LW.out; omega) i xn yn (i + M) (xn + M) (yn + M) (by omega) (by omega) (by omega) o1 o2 (by omega) (St_below HP6.out.1 hbq) HC2.out
         simp only [Int.natCast_add] at hcl
         have HCL2 := Aside0.mk hcl
         have hx0 : wc.cell? (adX.add i) = some (.int .i64 (xn : Int)) := by
          have h := int_cell CX6.out i (by omega)
          rw [HXN.out] at h
          rw [hwc]
          exact h
         have hy0 : wc.cell? (adY.add i) = some (.int .i64 (yn : Int)) := by
          have h := int_cell CY6.out i (by omega)
          rw [HYN.out] at h
          rw [hwc]
          exact h
         clear hwc
         have j0 : IntKind.i64.wrap ((i : Int) + (M : Int)) = (i : Int) + (M : Int) := IntWalk.i64_in _ (by omega)
         have j3 : IntKind.i64.wrap ((xn : Int) + (M : Int)) = (xn : Int) + (M : Int) := IntWalk.i64_in _ (by omega)
         have j4 : IntKind.i64.wrap ((yn : Int) + (M : Int)) = (yn : Int) + (M : Int) := IntWalk.i64_in _ (by omega)
         clear hbq hcl
         go_upto_region 21 with fail
         go_still_tail 17, (by kernel_rfl)
         clear j0 j3 j4
         go_wp2_with (go_at_fn 27; (with_reducible refine HCL2.out.mono ?_); rintro e_ w8 ⟨rfl, hp⟩; have HP8 := Aside0.mk hp; clear hp)
         go_roundg n'
         case measure => omega
         case rel => exact ⟨n', i + M, (i + M, xn + M, yn + M), o2, rfl, by congr 1; omega, by omega, HG2, by omega, ⟨HP8.out.1⟩, ⟨Below.trans HBQ.out HP8.out.2⟩⟩
     ·have q1 : decide ((i : Int) < (l0.length : Int)) = false := decide_eq_false (by omega)
      have q2 : decide (i < l0.length) = false := decide_eq_false hlt
      rw [if_neg hlt] at hg
      obtain ⟨rfl, rfl⟩ := Prod.mk.inj (Option.some.inj hg)
      clear hg
      go_wp2
      go_meet
      exact ⟨HST, HBL, by omega⟩
   case rest =>
    obtain ⟨HST, HBL, hol⟩ := hcut
    have hB9 := pc_keep (i := 0) HBL.out (by have := LW.out; omega) KB.out
    have hU9 := pc_keep (i := 0) HBL.out (by have := LW.out; omega) KU.out
    have hT9 := pc_keep (i := 0) HBL.out (by have := LW.out; omega) KT.out
    have HCL := Aside0.mk (cut.calls w4.heap.size w.heap.size (w.heap.size + 1) (w.heap.size + 1 + 1) wc A0 c0 l0 A1 c1 l1 A2 c2 l2 (Kd.C_below T0.out HBL.out) hc0 (Kd.C_below T1.out HBL.out) hc1 (Kd.C_below T2.out HBL.out) hc2 (by omega) (by omega) (by omega) hB9 hU9 hT9 (by have := LW.out; omega) (by have := LW.out; omega) (by have := LW.out; omega) aF.1 aF.2.1 aF.2.2 l0.length l1.length l2.length (by omega) (by omega) (by omega) oF oR hol HST.out HCR.out)
    go_upto_region 24 with (go_at_fn 27; (with_reducible refine HCL.out.mono ?_); rintro e_ w9 ⟨rfl, hp⟩; have HP9 := Aside0.mk hp; clear hp)
    obtain ⟨vO, hO, hA, hS, hsz⟩ := HP9.out.1
    have hc9 := cell_of_one hO
    obtain ⟨AO, cO, rfl⟩ := Kd.S_slice hS
    have HS := Aside0.mk hS
    clear hO hA hS hsz
    go_wp2
    go_ret2
    exact ⟨_, rfl, Kd.S_lower HS.out (by have := LW.out; omega), Below.trans HB04.out (Below.mono (Below.trans HBL.out HP9.out.2) (by have := LW.out; omega))⟩
  ·cases hm
end Go.Proofs.Ytahpbpacjciddaa.Pr
end
section
namespace Go.Proofs.Ytahpbpacjciddaa.Pr
open Go.RowKit Go.Proofs.YtahpbpacjciddaaW.PrintWords Go.Proofs.YtahpbpacjciddaaW.PrintLast Go.Proofs.YtahpbpacjciddaaW.PrintMore
def widey (s : ByteArray) : Bool := decide (2000 < s.size) || feedy s
theorem mplain1_any (s : ByteArray) (w : World) : Calls Try.prog 47 #[.string s] w fun e w' => e = .returned (.bool (widey s)) ∧ w' = w := by
 by_cases c : (s.size : Int) > 2000
 ·have c1 : decide ((s.size : Int) > 2000) = true := decide_eq_true c
  have c2 : decide ((2000 : Int) < (s.size : Int)) = true := decide_eq_true c
  have e1 : widey s = true := by unfold widey; rw [decide_eq_true (by omega)]; rfl
  rw [e1]
  clear e1 c
  go_enter Try.func47, Try.ntmps47
  go_wp2
  go_ret
  exact ⟨rfl, rfl⟩
 ·have c1 : decide ((s.size : Int) > 2000) = false := decide_eq_false c
  have c2 : decide ((2000 : Int) < (s.size : Int)) = false := decide_eq_false c
  have e1 : widey s = feedy s := by unfold widey; rw [decide_eq_false (by omega)]; rfl
  rw [e1]
  clear e1 c
  go_enter Try.func47, Try.ntmps47
  go_wp2_with (go_at_call 48; refine (Try.strings_IndexByte _ _ _).mono ?_; rintro e w' ⟨rfl, rfl⟩)
  go_ret
  exact ⟨rfl, rfl⟩
set_option maxHeartbeats 2000000 in
theorem mpidxf_any (A0 : Option Addr) (c0 : Nat) (l0 : List ByteArray) (w : World) (hr0 : Kd.C Kd.string w A0 l0.length l0) :
  Calls Try.prog 61 #[.slice A0 l0.length c0, .func (.func 47) #[] #[]] w fun e w' => e = .returned (.int .i64 (idxFrom widey l0 0)) ∧ Drawn0 w w' := by
 have hbig : l0.length ≤ 9223372036854775807 := hr0.2.1
 have eg : ∀ args w, (callFunc 47 args).run Try.prog w = .ok (.enter 47 args) w := enters_of Try.func47 (by kernel_rfl) rfl
 have HR0 := Aside0.mk hr0
 clear hr0
 go_enter Try.func61, Try.ntmps61
 go_wp2
 go_loopg [5, 8] l0.length (fun gg _ s8 wr => ∃ kk q : Nat, kk ≤ l0.length ∧ l0.length - kk ≤ gg ∧ s8 = .int .i64 kk ∧ wr = w.drewN q ∧ Aside0 (∀ j (hj : j < l0.length), j < kk → widey (l0[j]'hj) = false))
 case atStart => exact ⟨0, 0, Nat.zero_le _, by omega, rfl, rfl, ⟨fun j _ hj => absurd hj (Nat.not_lt_zero _)⟩⟩
 case round =>
  obtain ⟨kk, q, hkk, hg, rfl, rfl, HN⟩ := hrel
  by_cases hlt : kk < l0.length
  ·have hltz : (kk : Int) < (l0.length : Int) := by omega
   obtain ⟨ad, rfl, hcell⟩ := Kd.at_string HR0.out (kk : Int) (by omega) (by omega)
   simp only [Int.toNat_natCast] at hcell
   have hy0 : rdOf ByteArray.empty l0 (kk : Int) = l0[kk] := by simp [rdOf, hlt]
   rw [hy0] at hcell
   obtain ⟨y, hy⟩ : ∃ y, y = l0[kk] := ⟨_, rfl⟩
   rw [← hy] at hcell
   have HY := Aside0.mk hy
   clear hy hy0
   have hcall := mplain1_any y
   cases hq : widey y with
   | true =>
    rw [hq] at hcall
    go_wp2_with (go_at_fn 47; refine (hcall _).mono ?_; rintro e w' ⟨rfl, rfl⟩)
    go_ret
    refine ⟨?_, ⟨⟨_, rfl⟩⟩⟩
    rw [idxFrom_hit widey l0 0 kk hlt (fun j hj => HN.out j (by omega) hj) (by rw [← HY.out]; exact hq)]
    simp
   | false =>
    rw [hq] at hcall
    go_wp2_with (go_at_fn 47; refine (hcall _).mono ?_; rintro e w' ⟨rfl, rfl⟩)
    go_roundg (l0.length - (kk + 1))
    case measure => omega
    case rel =>
     refine ⟨kk + 1, _, by omega, by omega, by go_num, rfl, ⟨fun j hjl hj => ?_⟩⟩
     by_cases e : j = kk
     ·subst e
      rw [← HY.out]; exact hq
     ·exact HN.out j hjl (by omega)
  ·have hltz : ¬ (kk : Int) < (l0.length : Int) := by omega
   have hk : kk = l0.length := by omega
   have HK := Aside0.mk hk
   clear hk
   go_wp2
   go_ret
   refine ⟨?_, ⟨⟨q, rfl⟩⟩⟩
   rw [idxFrom_miss widey l0 0 (fun j hj => HN.out j hj (by rw [HK.out]; exact hj))]
   rfl
theorem mpcontains_any (A0 : Option Addr) (c0 : Nat) (l0 : List ByteArray) (w : World) (hr0 : Kd.C Kd.string w A0 l0.length l0) :
  Calls Try.prog 46 #[.slice A0 l0.length c0, .func (.func 47) #[] #[]] w fun e w' => e = .returned (.bool (l0.any widey)) ∧ Drawn0 w w' := by
 rw [← idxFrom_any widey l0 0]
 go_enter Try.func46, Try.ntmps46
 go_wp2_with (go_at_call 61; refine (mpidxf_any A0 c0 l0 _ hr0).mono ?_; rintro e w' ⟨rfl, ⟨q, rfl⟩⟩)
 go_ret
 exact ⟨rfl, ⟨⟨q, rfl⟩⟩⟩
def merge_plain.f (l0 : List ByteArray) : Option (Bool) := some (decide (l0.length ≤ 60) && !l0.any widey)
theorem merge_plain.calls (A0 : Option Addr) (c0 : Nat) (l0 : List ByteArray) (r : Bool) (w : World) (hr0 : Kd.C Kd.string w A0 l0.length l0) (hc0 : l0.length ≤ c0) (h : merge_plain.f l0 = some r) :
  Calls Try.prog 36 #[.slice A0 l0.length c0] w fun e w' => e = .returned (.bool r) ∧ Drawn0 w w' := by
 obtain rfl : (decide (l0.length ≤ 60) && !l0.any widey) = r := by simpa [merge_plain.f] using h
 clear h
 by_cases c : (l0.length : Int) ≤ 60
 ·have c1 : decide ((l0.length : Int) ≤ 60) = true := decide_eq_true c
  rw [decide_eq_true (show l0.length ≤ 60 by omega), Bool.true_and]
  clear c
  go_enter Try.func36, Try.ntmps36
  go_wp2_with (go_at_call 46; refine (mpcontains_any A0 c0 l0 _ hr0).mono ?_; rintro e w' ⟨rfl, ⟨q, rfl⟩⟩)
  go_ret
  exact ⟨rfl, ⟨⟨q, rfl⟩⟩⟩
 ·have c1 : decide ((l0.length : Int) ≤ 60) = false := decide_eq_false c
  rw [decide_eq_false (show ¬ l0.length ≤ 60 by omega), Bool.false_and]
  clear c
  go_enter Try.func36, Try.ntmps36
  go_wp2
  go_ret
  first | exact ⟨rfl, ⟨⟨0, rfl⟩⟩⟩ | exact ⟨rfl, ⟨⟨_, rfl⟩⟩⟩ | exact ⟨rfl, ⟨⟨0, by simp [World.drewN]⟩⟩⟩ | exact ⟨rfl, ⟨0, rfl⟩⟩
end Go.Proofs.Ytahpbpacjciddaa.Pr
end
section
namespace Go.Proofs.Ytahpbpacjciddaa.Pr
open Go.RowKit Go.Proofs.YtahpbpacjciddaaW.PrintWords Go.Proofs.YtahpbpacjciddaaW.PrintLast Go.Proofs.YtahpbpacjciddaaW.PrintMore
def mplainB (l : List ByteArray) : Bool := decide (l.length ≤ 60) && !l.any widey
def mbad (x : S34) : Bool := !mplainB x.f1 || (!mplainB x.f2 || (!mplainB x.f3 || (decide (x.f0 ≠ kindB x.f1 x.f2 x.f3) || decide (x.f1.length + x.f2.length + x.f3.length = 0))))
def merge_Check.f (l0 : List S34) : Option Int := if 130 < l0.length then none else if l0.any mbad = true then none else some 0
theorem mplain_any (A0 : Option Addr) (c0 : Nat) (l0 : List ByteArray) (w : World) (hr0 : Kd.C Kd.string w A0 l0.length l0) (hc0 : l0.length ≤ c0) :
    Calls Try.prog 36 #[.slice A0 l0.length c0] w fun e w' => e = .returned (.bool (mplainB l0)) ∧ Drawn0 w w' := merge_plain.calls A0 c0 l0 _ w hr0 hc0 rfl
theorem mplain_len {l : List ByteArray} (h : mplainB l = true) : l.length ≤ 60 := by
  simp only [mplainB, Bool.and_eq_true, decide_eq_true_eq] at h
  exact h.1
abbrev merge_Check.Bz0 : Array Bool := #[false, false, false, false, false, false, false, false, false, false, false, false, false, false, false, false, false, false, false, false, false, false, false, false, false, false, false, false, false, false, false, false, false, false, false, false, false]
abbrev merge_Check.Bz1 : Array Bool := #[true, false, false, false, false, false, false, false, false, false, false, false, false, false, false, false, false, false, false, false, false, false, false, false, false, false, false, false, false, false, false, false, false, false, false, false, false]
abbrev merge_Check.Bz2 : Array Bool := #[true, true, false, false, false, false, false, false, false, false, false, false, false, false, false, false, false, false, false, false, false, false, false, false, false, false, false, false, false, false, false, false, false, false, false, false, false]
abbrev merge_Check.Bz3 : Array Bool := #[true, true, true, false, false, false, false, false, false, false, false, false, false, false, false, false, false, false, false, false, false, false, false, false, false, false, false, false, false, false, false, false, false, false, false, false, false]
abbrev merge_Check.Bz4 : Array Bool := #[true, true, true, true, false, false, false, false, false, false, false, false, false, false, false, false, false, false, false, false, false, false, false, false, false, false, false, false, false, false, false, false, false, false, false, false, false]
abbrev merge_Check.Bz5 : Array Bool := #[true, true, true, true, true, false, false, false, false, false, false, false, false, false, false, false, false, false, false, false, false, false, false, false, false, false, false, false, false, false, false, false, false, false, false, false, false]
abbrev merge_Check.Bz6 : Array Bool := #[true, true, true, true, true, true, false, false, false, false, false, false, false, false, false, false, false, false, false, false, false, false, false, false, false, false, false, false, false, false, false, false, false, false, false, false, false]
abbrev merge_Check.Bz7 : Array Bool := #[true, true, true, true, true, true, true, false, false, false, false, false, false, false, false, false, false, false, false, false, false, false, false, false, false, false, false, false, false, false, false, false, false, false, false, false, false]
abbrev merge_Check.Bz8 : Array Bool := #[true, true, true, true, true, true, true, true, false, false, false, false, false, false, false, false, false, false, false, false, false, false, false, false, false, false, false, false, false, false, false, false, false, false, false, false, false]
abbrev merge_Check.Bz9 : Array Bool := #[true, true, true, true, true, true, true, true, true, false, false, false, false, false, false, false, false, false, false, false, false, false, false, false, false, false, false, false, false, false, false, false, false, false, false, false, false]
abbrev merge_Check.Bz10 : Array Bool := #[true, true, true, true, true, true, true, true, true, true, false, false, false, false, false, false, false, false, false, false, false, false, false, false, false, false, false, false, false, false, false, false, false, false, false, false, false]
abbrev merge_Check.Bz11 : Array Bool := #[true, true, true, true, true, true, true, true, true, true, true, false, false, false, false, false, false, false, false, false, false, false, false, false, false, false, false, false, false, false, false, false, false, false, false, false, false]
abbrev merge_Check.Bz12 : Array Bool := #[true, true, true, true, true, true, true, true, true, true, true, true, false, false, false, false, false, false, false, false, false, false, false, false, false, false, false, false, false, false, false, false, false, false, false, false, false]
abbrev merge_Check.Bz13 : Array Bool := #[true, true, true, true, true, true, true, true, true, true, true, true, true, false, false, false, false, false, false, false, false, false, false, false, false, false, false, false, false, false, false, false, false, false, false, false, false]
abbrev merge_Check.Bz14 : Array Bool := #[true, true, true, true, true, true, true, true, true, true, true, true, true, true, false, false, false, false, false, false, false, false, false, false, false, false, false, false, false, false, false, false, false, false, false, false, false]
abbrev merge_Check.Bz15 : Array Bool := #[true, true, true, true, true, true, true, true, true, true, true, true, true, true, true, false, false, false, false, false, false, false, false, false, false, false, false, false, false, false, false, false, false, false, false, false, false]
abbrev merge_Check.Bz16 : Array Bool := #[true, true, true, true, true, true, true, true, true, true, true, true, true, true, true, true, false, false, false, false, false, false, false, false, false, false, false, false, false, false, false, false, false, false, false, false, false]
abbrev merge_Check.Bz17 : Array Bool := #[true, true, true, true, true, true, true, true, true, true, true, true, true, true, true, true, true, false, false, false, false, false, false, false, false, false, false, false, false, false, false, false, false, false, false, false, false]
abbrev merge_Check.Bz18 : Array Bool := #[true, true, true, true, true, true, true, true, true, true, true, true, true, true, true, true, true, true, false, false, false, false, false, false, false, false, false, false, false, false, false, false, false, false, false, false, false]
abbrev merge_Check.Bz19 : Array Bool := #[true, true, true, true, true, true, true, true, true, true, true, true, true, true, true, true, true, true, true, false, false, false, false, false, false, false, false, false, false, false, false, false, false, false, false, false, false]
abbrev merge_Check.Bz20 : Array Bool := #[true, true, true, true, true, true, true, true, true, true, true, true, true, true, true, true, true, true, true, true, false, false, false, false, false, false, false, false, false, false, false, false, false, false, false, false, false]
abbrev merge_Check.Bz21 : Array Bool := #[true, true, true, true, true, true, true, true, true, true, true, true, true, true, true, true, true, true, true, true, true, false, false, false, false, false, false, false, false, false, false, false, false, false, false, false, false]
abbrev merge_Check.Bz22 : Array Bool := #[true, true, true, true, true, true, true, true, true, true, true, true, true, true, true, true, true, true, true, true, true, true, false, false, false, false, false, false, false, false, false, false, false, false, false, false, false]
abbrev merge_Check.Bz23 : Array Bool := #[true, true, true, true, true, true, true, true, true, true, true, true, true, true, true, true, true, true, true, true, true, true, true, false, false, false, false, false, false, false, false, false, false, false, false, false, false]
abbrev merge_Check.Bz24 : Array Bool := #[true, true, true, true, true, true, true, true, true, true, true, true, true, true, true, true, true, true, true, true, true, true, true, true, false, false, false, false, false, false, false, false, false, false, false, false, false]
abbrev merge_Check.Bz25 : Array Bool := #[true, true, true, true, true, true, true, true, true, true, true, true, true, true, true, true, true, true, true, true, true, true, true, true, true, false, false, false, false, false, false, false, false, false, false, false, false]
abbrev merge_Check.Bz32 : Array Bool := #[true, true, true, true, true, true, true, true, true, true, true, true, true, true, true, true, true, true, true, true, true, true, true, true, true, true, true, true, true, true, true, true, false, false, false, false, false]
abbrev merge_Check.Bz33 : Array Bool := #[true, true, true, true, true, true, true, true, true, true, true, true, true, true, true, true, true, true, true, true, true, true, true, true, true, true, true, true, true, true, true, true, true, false, false, false, false]
abbrev merge_Check.Bz34 : Array Bool := #[true, true, true, true, true, true, true, true, true, true, true, true, true, true, true, true, true, true, true, true, true, true, true, true, true, true, true, true, true, true, true, true, true, true, false, false, false]
abbrev merge_Check.Bz35 : Array Bool := #[true, true, true, true, true, true, true, true, true, true, true, true, true, true, true, true, true, true, true, true, true, true, true, true, true, true, true, true, true, true, true, true, true, true, true, false, false]
abbrev merge_Check.Bz36 : Array Bool := #[true, true, true, true, true, true, true, true, true, true, true, true, true, true, true, true, true, true, true, true, true, true, true, true, true, true, true, true, true, true, true, true, true, true, true, true, false]
abbrev merge_Check.Bz37 : Array Bool := #[true, true, true, true, true, true, true, true, true, true, true, true, true, true, true, true, true, true, true, true, true, true, true, true, true, true, true, true, true, true, true, true, true, true, true, true, true]
open merge_Check in
set_option maxHeartbeats 8000000 in
set_option maxRecDepth 100000 in
theorem merge_Check.calls (A0 : Option Addr) (c0 : Nat) (l0 : List S34) (r : Int) (w : World) (hr0 : Kd.C k34 w A0 l0.length l0) (hc0 : l0.length ≤ c0) (h : merge_Check.f l0 = some r) :
  Calls Try.prog 20 #[.slice A0 l0.length c0] w fun e w' => e = .returned (.int .i64 r) ∧ Below w.heap.size w w' := by
 have hbig : l0.length ≤ 9223372036854775807 := hr0.2.1
 have HR0 := Aside0.mk hr0
 clear hr0
 by_cases hm : 130 < l0.length
 ·unfold merge_Check.f at h
  rw [if_pos hm] at h
  cases h
 ·unfold merge_Check.f at h
  rw [if_neg hm] at h
  by_cases hn : l0.any mbad = true
  ·rw [if_pos hn] at h
   cases h
  rw [if_neg hn] at h
  obtain rfl := Option.some.inj h
  clear h
  have HN := Aside0.mk (show l0.any mbad = false by simpa using hn)
  clear hn
  have m1 : decide ((130 : Int) < (l0.length : Int)) = false := decide_eq_false (by omega)
  have m2 : decide (130 < l0.length) = false := decide_eq_false hm
  have hl : l0.length ≤ 130 := by omega
  clear hm hbig
  obtain ⟨res, hres⟩ : ∃ res : Int, res = 0 := ⟨_, rfl⟩
  rw [← hres]
  have HRES := Aside0.mk hres
  clear hres
  go_enter Try.func20, Try.ntmps20
  go_wp2
  clear m1 m2
  go_loopg [11] l0.length (fun nq v11 wr => ∃ j : Nat, v11 = .int .i64 (j : Int) ∧ j ≤ l0.length ∧ l0.length - j ≤ nq ∧ Aside0 ((l0.drop j).any mbad = l0.any mbad) ∧ Aside0 (Below w.heap.size w wr))
  case atStart => exact ⟨0, rfl, by omega, by omega, ⟨rfl⟩, ⟨Below.refl _ _⟩⟩
  case round =>
   obtain ⟨j, rfl, hj, hjq, HA, HB⟩ := hrel
   by_cases hlt : j < l0.length
   ·have q1 : decide ((j : Int) < (l0.length : Int)) = true := decide_eq_true (by omega)
    obtain ⟨ad, A1, c1, A2, c2, A3, c3, rfl, k0, k1, k2, k3, n1, g1, n2, g2, n3, g3⟩ := at_T34 (Kd.C_below HR0.out HB.out) (j : Int) (by omega) (by omega)
    have hx : l0.drop j = rd_T34 l0 (j : Int) :: l0.drop (j + 1) := by
     rw [List.drop_eq_getElem_cons hlt]
     unfold rd_T34
     rw [Int.toNat_natCast, List.getD_eq_getElem?_getD, List.getElem?_eq_getElem hlt]
     rfl
    obtain ⟨x, hxe⟩ : ∃ x, x = rd_T34 l0 (j : Int) := ⟨_, rfl⟩
    rw [← hxe] at k0 k1 k2 k3 n1 g1 n2 g2 n3 g3 hx
    have HX := Aside0.mk hx
    have HX0 := Aside0.mk (show mbad x = false by have h := HA.out; rw [hx, List.any_cons, HN.out, Bool.or_eq_false_iff] at h; exact h.1)
    clear hxe hx
    simp only [Int.toNat_natCast] at k0 k1 k2 k3
    obtain ⟨W, hW⟩ : ∃ W, W = (wr.alloc (.cells #[.int .u8 x.f0, .slice A1 x.f1.length c1, .slice A2 x.f2.length c2, .slice A3 x.f3.length c3] 34)).alloc (.cells #[.slice A1 x.f1.length c1, .slice A2 x.f2.length c2, .slice A3 x.f3.length c3] 55) := ⟨_, rfl⟩
    go_upto_region 7 with fail
    rw [← hW]
    have hWB : Below wr.heap.size wr W := by rw [hW]; exact ((Below.refl _ _).alloc (Nat.le_refl _) _).alloc (by simp) _
    have hsz : W.heap.size = wr.heap.size + 2 := by rw [hW]; simp
    have D0 := Aside0.mk (show W.cell? ⟨wr.heap.size, 0, none⟩ = some (.int .u8 x.f0) by rw [hW]; go_simp)
    have D1 := Aside0.mk (show W.cell? ⟨wr.heap.size, 1, none⟩ = some (.slice A1 x.f1.length c1) by rw [hW]; go_simp)
    have D2 := Aside0.mk (show W.cell? ⟨wr.heap.size, 2, none⟩ = some (.slice A2 x.f2.length c2) by rw [hW]; go_simp)
    have D3 := Aside0.mk (show W.cell? ⟨wr.heap.size, 3, none⟩ = some (.slice A3 x.f3.length c3) by rw [hW]; go_simp)
    have E0 := Aside0.mk (show W.cell? ⟨wr.heap.size + 1, 0, none⟩ = some (.slice A1 x.f1.length c1) by rw [hW]; go_simp)
    have E1 := Aside0.mk (show W.cell? ⟨wr.heap.size + 1, 1, none⟩ = some (.slice A2 x.f2.length c2) by rw [hW]; go_simp)
    have E2 := Aside0.mk (show W.cell? ⟨wr.heap.size + 1, 2, none⟩ = some (.slice A3 x.f3.length c3) by rw [hW]; go_simp)
    have L0 := Aside0.mk (show wr.heap.size < W.heap.size by omega)
    have L1 := Aside0.mk (show wr.heap.size + 1 < W.heap.size by omega)
    have HWB := Aside0.mk (Below.trans HB.out (Below.mono hWB (Below.size HB.out)))
    have P1' := fun X (hX : Below W.heap.size W X) => mplain_any A1 c1 x.f1 X (Kd.C_below (Kd.C_below g1 hWB) hX) n1
    have P2' := fun X (hX : Below W.heap.size W X) => mplain_any A2 c2 x.f2 X (Kd.C_below (Kd.C_below g2 hWB) hX) n2
    have P3' := fun X (hX : Below W.heap.size W X) => mplain_any A3 c3 x.f3 X (Kd.C_below (Kd.C_below g3 hWB) hX) n3
    have PK' := Aside0.mk (fun X (hX : Below W.heap.size W X) h1 h2 h3 => merge_kind.calls A1 c1 x.f1 A2 c2 x.f2 A3 c3 x.f3 X (Kd.C_below (Kd.C_below g1 hWB) hX) n1 (Kd.C_below (Kd.C_below g2 hWB) hX) n2 (Kd.C_below (Kd.C_below g3 hWB) hX) n3 h1 h2 h3)
    clear hW hWB hsz g1 g2 g3 n1 n2 n3 k0 k1 k2 k3
    have HWS := Aside0.mk (Below.size HWB.out)
    have HQ0 := Aside0.mk (show Below W.heap.size W W.drew from below_drew1 (Below.refl _ _))
    go_cut [58] (fun s58 wz => s58 = .bool (mbad x) ∧ Aside0 (Below w.heap.size w wz))
    case first =>
     cases b1 : mplainB x.f1 with
     | false =>
      have HV := Aside0.mk (show mbad x = true by unfold mbad; rw [b1]; rfl)
      exact absurd HV.out (by rw [HX0.out]; exact Bool.false_ne_true)
     | true =>
      have l1 := mplain_len b1
      rw [b1] at P1'
      have P1 := Aside0.mk P1'
      cases b2 : mplainB x.f2 with
      | false =>
       have HV := Aside0.mk (show mbad x = true by unfold mbad; rw [b1, b2]; rfl)
       exact absurd HV.out (by rw [HX0.out]; exact Bool.false_ne_true)
      | true =>
       have l2 := mplain_len b2
       rw [b2] at P2'
       have P2 := Aside0.mk P2'
       cases b3 : mplainB x.f3 with
       | false =>
        have HV := Aside0.mk (show mbad x = true by unfold mbad; rw [b1, b2, b3]; rfl)
        exact absurd HV.out (by rw [HX0.out]; exact Bool.false_ne_true)
       | true =>
        have l3 := mplain_len b3
        rw [b3] at P3'
        have P3 := Aside0.mk P3'
        have PK := Aside0.mk (fun X hX => PK'.out X hX (by omega) (by omega) (by omega))
        have HV := Aside0.mk (show mbad x = (decide (x.f0 ≠ kindB x.f1 x.f2 x.f3) || decide (x.f1.length + x.f2.length + x.f3.length = 0)) by unfold mbad; rw [b1, b2, b3]; rfl)
        clear P1' P2' P3' PK' b1 b2 b3
        obtain ⟨kv, hkv⟩ : ∃ kv, kv = kindB x.f1 x.f2 x.f3 := ⟨_, rfl⟩
        rw [← hkv] at PK HV
        clear hkv
        by_cases z1 : x.f0 = kv
        ·have z1b : (x.f0 == kv) = true := by simpa using z1
         have z1c : (x.f0 != kv) = false := by simpa using z1
         have Z1 := Aside0.mk (show decide (x.f0 ≠ kv) = false from decide_eq_false (by simpa using z1))
         clear z1
         have j0 : IntKind.i64.wrap ((x.f1.length : Int) + (x.f2.length : Int)) = (x.f1.length : Int) + (x.f2.length : Int) := IntWalk.i64_in _ (by omega)
         have j1 : IntKind.i64.wrap ((x.f1.length : Int) + (x.f2.length : Int) + (x.f3.length : Int)) = (x.f1.length : Int) + (x.f2.length : Int) + (x.f3.length : Int) := IntWalk.i64_in _ (by omega)
         refine start_ (n := 37) (S := fun w' => w'.cell? ⟨wr.heap.size, 0, none⟩ = some (.int .u8 x.f0) ∧ w'.cell? ⟨wr.heap.size, 1, none⟩ = some (.slice A1 x.f1.length c1) ∧ w'.cell? ⟨wr.heap.size, 2, none⟩ = some (.slice A2 x.f2.length c2) ∧ w'.cell? ⟨wr.heap.size, 3, none⟩ = some (.slice A3 x.f3.length c3) ∧ w'.cell? ⟨wr.heap.size + 1, 0, none⟩ = some (.slice A1 x.f1.length c1) ∧ w'.cell? ⟨wr.heap.size + 1, 1, none⟩ = some (.slice A2 x.f2.length c2) ∧ w'.cell? ⟨wr.heap.size + 1, 2, none⟩ = some (.slice A3 x.f3.length c3)) (ds := []) Bz0 (by kernel_rfl) rfl rfl ⟨(by exact D0.out), (by exact D1.out), (by exact D2.out), (by exact D3.out), (by exact E0.out), (by exact E1.out), (by exact E2.out)⟩ (fun hHeld => ?_)
         refine pure_ (i := 0) (N := some 22) (v := ?_) (a' := ?_) Bz1 rfl rfl (by kernel_rfl) (fun _ _ _ h => h) (Or.inl ⟨by rfl, ?_⟩) ?_ ?_; rotate_left; (focus intro w'; go_simp; with_reducible rfl); rotate_left; (focus go_simp; rfl)
         refine take_ (i := 1) (N := some 23) (v := ?_) (a' := ?_) Bz2 rfl rfl (by kernel_rfl) (fun _ _ _ h => h) (Or.inl ⟨by rfl, ?_⟩) hHeld ?_ ?_; rotate_left; (focus rintro w' ⟨s0, s1, s2, s3, s4, s5, s6⟩; go_simp; with_reducible rfl); rotate_left; (focus go_simp; rfl)
         refine one_ (i := 2) (N := some 24) Bz3 rfl rfl (by kernel_rfl) (by decide) (fun K hK => ?_)
         refine goes_ Try.func36 (by kernel_rfl) rfl #[.slice A1 x.f1.length c1] (by rfl) rfl rfl (by simp only [List.map_toArray, List.map_cons, List.map_nil]; rfl) ?_
         with_reducible refine (P1.out _ HQ0.out).mono ?_
         rintro e w' ⟨rfl, ⟨q1, rfl⟩⟩
         refine ⟨_, rfl, ?_⟩
         have HQ1 := Aside0.mk (pw_below_drewN HQ0.out q1)
         refine hK.out _ _ ⟨(by exact D0.out), (by exact D1.out), (by exact D2.out), (by exact D3.out), (by exact E0.out), (by exact E1.out), (by exact E2.out)⟩ (fun hHeld => ?_)
         clear hK K
         refine norm_ (a' := ?_) ?_ ?_
         rotate_left
         ·show Act.put _ (some 24) _ = _
          simp only [Act.put, List.setIfInBounds_toArray, List.set_cons_zero, List.set_cons_succ, i64_w, i32_w]
          rfl
         refine pure_ (i := 3) (N := some 25) (v := ?_) (a' := ?_) Bz4 rfl rfl (by kernel_rfl) (fun _ _ _ h => h) (Or.inl ⟨by rfl, ?_⟩) ?_ ?_; rotate_left; (focus intro w'; go_simp; with_reducible rfl); rotate_left; (focus go_simp; rfl)
         refine pure_ (i := 4) (N := some 26) (v := ?_) (a' := ?_) Bz5 rfl rfl (by kernel_rfl) (fun _ _ _ h => h) (Or.inl ⟨by rfl, ?_⟩) ?_ ?_; rotate_left; (focus intro w'; go_simp; with_reducible rfl); rotate_left; (focus go_simp; rfl)
         refine pure_ (i := 5) (N := some 27) (v := ?_) (a' := ?_) Bz6 rfl rfl (by kernel_rfl) (fun _ _ _ h => h) (Or.inl ⟨by rfl, ?_⟩) ?_ ?_; rotate_left; (focus intro w'; go_simp; with_reducible rfl); rotate_left; (focus go_simp; rfl)
         refine take_ (i := 6) (N := some 28) (v := ?_) (a' := ?_) Bz7 rfl rfl (by kernel_rfl) (fun _ _ _ h => h) (Or.inl ⟨by rfl, ?_⟩) hHeld ?_ ?_; rotate_left; (focus rintro w' ⟨s0, s1, s2, s3, s4, s5, s6⟩; go_simp; with_reducible rfl); rotate_left; (focus go_simp; rfl)
         refine one_ (i := 7) (N := some 29) Bz8 rfl rfl (by kernel_rfl) (by decide) (fun K hK => ?_)
         refine goes_ Try.func36 (by kernel_rfl) rfl #[.slice A2 x.f2.length c2] (by rfl) rfl rfl (by simp only [List.map_toArray, List.map_cons, List.map_nil]; rfl) ?_
         with_reducible refine (P2.out _ HQ1.out).mono ?_
         rintro e w' ⟨rfl, ⟨q2, rfl⟩⟩
         refine ⟨_, rfl, ?_⟩
         have HQ2 := Aside0.mk (pw_below_drewN HQ1.out q2)
         refine hK.out _ _ ⟨(by exact D0.out), (by exact D1.out), (by exact D2.out), (by exact D3.out), (by exact E0.out), (by exact E1.out), (by exact E2.out)⟩ (fun hHeld => ?_)
         clear hK K
         refine norm_ (a' := ?_) ?_ ?_
         rotate_left
         ·show Act.put _ (some 29) _ = _
          simp only [Act.put, List.setIfInBounds_toArray, List.set_cons_zero, List.set_cons_succ, i64_w, i32_w]
          rfl
         refine pure_ (i := 8) (N := some 30) (v := ?_) (a' := ?_) Bz9 rfl rfl (by kernel_rfl) (fun _ _ _ h => h) (Or.inl ⟨by rfl, ?_⟩) ?_ ?_; rotate_left; (focus intro w'; go_simp; with_reducible rfl); rotate_left; (focus go_simp; rfl)
         refine pure_ (i := 9) (N := some 31) (v := ?_) (a' := ?_) Bz10 rfl rfl (by kernel_rfl) (fun _ _ _ h => h) (Or.inl ⟨by rfl, ?_⟩) ?_ ?_; rotate_left; (focus intro w'; go_simp; with_reducible rfl); rotate_left; (focus go_simp; rfl)
         refine pure_ (i := 10) (N := some 32) (v := ?_) (a' := ?_) Bz11 rfl rfl (by kernel_rfl) (fun _ _ _ h => h) (Or.inl ⟨by rfl, ?_⟩) ?_ ?_; rotate_left; (focus intro w'; go_simp; with_reducible rfl); rotate_left; (focus go_simp; rfl)
         refine pure_ (i := 11) (N := some 33) (v := ?_) (a' := ?_) Bz12 rfl rfl (by kernel_rfl) (fun _ _ _ h => h) (Or.inl ⟨by rfl, ?_⟩) ?_ ?_; rotate_left; (focus intro w'; go_simp; with_reducible rfl); rotate_left; (focus go_simp; rfl)
         refine take_ (i := 12) (N := some 34) (v := ?_) (a' := ?_) Bz13 rfl rfl (by kernel_rfl) (fun _ _ _ h => h) (Or.inl ⟨by rfl, ?_⟩) hHeld ?_ ?_; rotate_left; (focus rintro w' ⟨s0, s1, s2, s3, s4, s5, s6⟩; go_simp; with_reducible rfl); rotate_left; (focus go_simp; rfl)
         refine one_ (i := 13) (N := some 35) Bz14 rfl rfl (by kernel_rfl) (by decide) (fun K hK => ?_)
         refine goes_ Try.func36 (by kernel_rfl) rfl #[.slice A3 x.f3.length c3] (by rfl) rfl rfl (by simp only [List.map_toArray, List.map_cons, List.map_nil]; rfl) ?_
         with_reducible refine (P3.out _ HQ2.out).mono ?_
         rintro e w' ⟨rfl, ⟨q3, rfl⟩⟩
         refine ⟨_, rfl, ?_⟩
         have HQ3 := Aside0.mk (pw_below_drewN HQ2.out q3)
         refine hK.out _ _ ⟨(by exact D0.out), (by exact D1.out), (by exact D2.out), (by exact D3.out), (by exact E0.out), (by exact E1.out), (by exact E2.out)⟩ (fun hHeld => ?_)
         clear hK K
         refine norm_ (a' := ?_) ?_ ?_
         rotate_left
         ·show Act.put _ (some 35) _ = _
          simp only [Act.put, List.setIfInBounds_toArray, List.set_cons_zero, List.set_cons_succ, i64_w, i32_w]
          rfl
         refine pure_ (i := 14) (N := some 36) (v := ?_) (a' := ?_) Bz15 rfl rfl (by kernel_rfl) (fun _ _ _ h => h) (Or.inl ⟨by rfl, ?_⟩) ?_ ?_; rotate_left; (focus intro w'; go_simp; with_reducible rfl); rotate_left; (focus go_simp; rfl)
         refine pure_ (i := 15) (N := some 37) (v := ?_) (a' := ?_) Bz16 rfl rfl (by kernel_rfl) (fun _ _ _ h => h) (Or.inl ⟨by rfl, ?_⟩) ?_ ?_; rotate_left; (focus intro w'; go_simp; with_reducible rfl); rotate_left; (focus go_simp; rfl)
         refine pure_ (i := 16) (N := some 38) (v := ?_) (a' := ?_) Bz17 rfl rfl (by kernel_rfl) (fun _ _ _ h => h) (Or.inl ⟨by rfl, ?_⟩) ?_ ?_; rotate_left; (focus intro w'; go_simp; with_reducible rfl); rotate_left; (focus go_simp; rfl)
         refine pure_ (i := 17) (N := some 39) (v := ?_) (a' := ?_) Bz18 rfl rfl (by kernel_rfl) (fun _ _ _ h => h) (Or.inl ⟨by rfl, ?_⟩) ?_ ?_; rotate_left; (focus intro w'; go_simp; with_reducible rfl); rotate_left; (focus go_simp; rfl)
         refine take_ (i := 18) (N := some 40) (v := ?_) (a' := ?_) Bz19 rfl rfl (by kernel_rfl) (fun _ _ _ h => h) (Or.inl ⟨by rfl, ?_⟩) hHeld ?_ ?_; rotate_left; (focus rintro w' ⟨s0, s1, s2, s3, s4, s5, s6⟩; go_simp; with_reducible rfl); rotate_left; (focus go_simp; rfl)
         refine take_ (i := 19) (N := some 41) (v := ?_) (a' := ?_) Bz20 rfl rfl (by kernel_rfl) (fun _ _ _ h => h) (Or.inl ⟨by rfl, ?_⟩) hHeld ?_ ?_; rotate_left; (focus rintro w' ⟨s0, s1, s2, s3, s4, s5, s6⟩; go_simp; with_reducible rfl); rotate_left; (focus go_simp; rfl)
         refine one_ (i := 20) (N := some 42) Bz21 rfl rfl (by kernel_rfl) (by decide) (fun K hK => ?_)
         refine goes_ Try.func37 (by kernel_rfl) rfl #[.agg #[.slice A1 x.f1.length c1, .slice A2 x.f2.length c2, .slice A3 x.f3.length c3]] (by rfl) rfl rfl (by simp only [List.map_toArray, List.map_cons, List.map_nil]; rfl) ?_
         with_reducible refine (PK.out _ HQ3.out).mono ?_
         rintro e w3 ⟨rfl, hk⟩
         refine ⟨_, rfl, ?_⟩
         have HK := Aside0.mk hk
         clear hk
         refine hK.out _ _ ⟨(pc_keep HK.out (by exact L0.out) D0.out), (pc_keep HK.out (by exact L0.out) D1.out), (pc_keep HK.out (by exact L0.out) D2.out), (pc_keep HK.out (by exact L0.out) D3.out), (pc_keep HK.out (by exact L1.out) E0.out), (pc_keep HK.out (by exact L1.out) E1.out), (pc_keep HK.out (by exact L1.out) E2.out)⟩ (fun hHeld => ?_)
         clear hK K
         refine norm_ (a' := ?_) ?_ ?_
         rotate_left
         ·show Act.put _ (some 42) _ = _
          simp only [Act.put, List.setIfInBounds_toArray, List.set_cons_zero, List.set_cons_succ, i64_w, i32_w]
          rfl
         refine pure_ (i := 21) (N := some 43) (v := ?_) (a' := ?_) Bz22 rfl rfl (by kernel_rfl) (fun _ _ _ h => h) (Or.inl ⟨by rfl, ?_⟩) ?_ ?_; rotate_left; (focus intro w'; go_simp; with_reducible rfl); rotate_left; (focus go_simp; rfl)
         refine pure_ (i := 22) (N := some 44) (v := ?_) (a' := ?_) Bz23 rfl rfl (by kernel_rfl) (fun _ _ _ h => h) (Or.inl ⟨by rfl, ?_⟩) ?_ ?_; rotate_left; (focus intro w'; go_simp; with_reducible rfl); rotate_left; (focus go_simp; rfl)
         refine pure_ (i := 23) (N := some 45) (v := ?_) (a' := ?_) Bz24 rfl rfl (by kernel_rfl) (fun _ _ _ h => h) (Or.inl ⟨by rfl, ?_⟩) ?_ ?_; rotate_left; (focus intro w'; go_simp; with_reducible rfl); rotate_left; (focus go_simp; rfl)
         refine pure_ (i := 24) (N := some 46) (v := ?_) (a' := ?_) Bz25 rfl rfl (by kernel_rfl) (fun _ _ _ h => h) (Or.inl ⟨by rfl, ?_⟩) ?_ ?_; rotate_left; (focus intro w'; go_simp; with_reducible rfl); rotate_left; (focus go_simp; rfl)
         refine pure_ (i := 27) (N := some 49) (v := ?_) (a' := ?_) #[true, true, true, true, true, true, true, true, true, true, true, true, true, true, true, true, true, true, true, true, true, true, true, true, true, false, false, true, false, false, false, false, false, false, false, false, false] rfl rfl (by kernel_rfl) (fun _ _ _ h => h) (Or.inl ⟨by rfl, ?_⟩) ?_ ?_; rotate_left; (focus intro w'; go_simp; with_reducible rfl); rotate_left; (focus go_simp; rfl)
         refine pure_ (i := 31) (N := some 53) (v := ?_) (a' := ?_) #[true, true, true, true, true, true, true, true, true, true, true, true, true, true, true, true, true, true, true, true, true, true, true, true, true, false, false, true, false, false, false, true, false, false, false, false, false] rfl rfl (by kernel_rfl) (fun _ _ _ h => h) (Or.inl ⟨by rfl, ?_⟩) ?_ ?_; rotate_left; (focus intro w'; go_simp; with_reducible rfl); rotate_left; (focus go_simp; rfl)
         refine take_ (i := 25) (N := some 47) (v := ?_) (a' := ?_) #[true, true, true, true, true, true, true, true, true, true, true, true, true, true, true, true, true, true, true, true, true, true, true, true, true, true, false, true, false, false, false, true, false, false, false, false, false] rfl rfl (by kernel_rfl) (fun _ _ _ h => h) (Or.inl ⟨by rfl, ?_⟩) hHeld ?_ ?_; rotate_left; (focus rintro w' ⟨s0, s1, s2, s3, s4, s5, s6⟩; go_simp; with_reducible rfl); rotate_left; (focus go_simp; rfl)
         refine pure_ (i := 26) (N := some 48) (v := ?_) (a' := ?_) #[true, true, true, true, true, true, true, true, true, true, true, true, true, true, true, true, true, true, true, true, true, true, true, true, true, true, true, true, false, false, false, true, false, false, false, false, false] rfl rfl (by kernel_rfl) (fun _ _ _ h => h) (Or.inl ⟨by rfl, ?_⟩) ?_ ?_; rotate_left; (focus intro w'; go_simp; with_reducible rfl); rotate_left; (focus go_simp; rfl)
         refine take_ (i := 28) (N := some 50) (v := ?_) (a' := ?_) #[true, true, true, true, true, true, true, true, true, true, true, true, true, true, true, true, true, true, true, true, true, true, true, true, true, true, true, true, true, false, false, true, false, false, false, false, false] rfl rfl (by kernel_rfl) (fun _ _ _ h => h) (Or.inl ⟨by rfl, ?_⟩) hHeld ?_ ?_; rotate_left; (focus rintro w' ⟨s0, s1, s2, s3, s4, s5, s6⟩; go_simp; with_reducible rfl); rotate_left; (focus go_simp; rfl)
         refine pure_ (i := 29) (N := some 51) (v := ?_) (a' := ?_) #[true, true, true, true, true, true, true, true, true, true, true, true, true, true, true, true, true, true, true, true, true, true, true, true, true, true, true, true, true, true, false, true, false, false, false, false, false] rfl rfl (by kernel_rfl) (fun _ _ _ h => h) (Or.inl ⟨by rfl, ?_⟩) ?_ ?_; rotate_left; (focus intro w'; go_simp; with_reducible rfl); rotate_left; (focus go_simp; rfl)
         refine pure_ (i := 30) (N := some 52) (v := ?_) (a' := ?_) Bz32 rfl rfl (by kernel_rfl) (fun _ _ _ h => h) (Or.inl ⟨by rfl, ?_⟩) ?_ ?_; rotate_left; (focus intro w'; go_simp; with_reducible rfl); rotate_left; (focus go_simp; rfl)
         refine take_ (i := 32) (N := some 54) (v := ?_) (a' := ?_) Bz33 rfl rfl (by kernel_rfl) (fun _ _ _ h => h) (Or.inl ⟨by rfl, ?_⟩) hHeld ?_ ?_; rotate_left; (focus rintro w' ⟨s0, s1, s2, s3, s4, s5, s6⟩; go_simp; with_reducible rfl); rotate_left; (focus go_simp; rfl)
         refine pure_ (i := 33) (N := some 55) (v := ?_) (a' := ?_) Bz34 rfl rfl (by kernel_rfl) (fun _ _ _ h => h) (Or.inl ⟨by rfl, ?_⟩) ?_ ?_; rotate_left; (focus intro w'; go_simp; with_reducible rfl); rotate_left; (focus go_simp; rfl)
         refine pure_ (i := 34) (N := some 56) (v := ?_) (a' := ?_) Bz35 rfl rfl (by kernel_rfl) (fun _ _ _ h => h) (Or.inl ⟨by rfl, ?_⟩) ?_ ?_; rotate_left; (focus intro w'; go_simp; with_reducible rfl); rotate_left; (focus go_simp; rfl)
         refine pure_ (i := 35) (N := some 57) (v := ?_) (a' := ?_) Bz36 rfl rfl (by kernel_rfl) (fun _ _ _ h => h) (Or.inl ⟨by rfl, ?_⟩) ?_ ?_; rotate_left; (focus intro w'; go_simp; with_reducible rfl); rotate_left; (focus go_simp; rfl)
         refine pure_ (i := 36) (N := some 58) (v := ?_) (a' := ?_) Bz37 rfl rfl (by kernel_rfl) (fun _ _ _ h => h) (Or.inl ⟨by rfl, ?_⟩) ?_ ?_; rotate_left; (focus intro w'; go_simp; with_reducible rfl); rotate_left; (focus go_simp; rfl)
         refine done_ (by kernel_rfl) ?_
         go_wp2_with fail
         go_meet
         refine ⟨congrArg Value.bool ?_, ⟨Below.trans HWB.out (Below.trans (Below.mono HQ3.out HWS.out) (Below.mono HK.out (Nat.le_trans HWS.out (by have h_ := Below.size HQ3.out; exact h_))))⟩⟩
         rw [HV.out, Z1.out, Bool.false_or, Bool.eq_iff_iff]
         simp only [beq_iff_eq, decide_eq_true_eq]
         omega
        ·exact absurd HV.out (by rw [HX0.out, decide_eq_true z1]; exact Bool.false_ne_true)
    case rest =>
     obtain ⟨rfl, HB2⟩ := hcut
     have hA := HA.out
     rw [HX.out, List.any_cons] at hA
     cases hq : mbad x with
     | true =>
      exact absurd (HX0.out.symm.trans hq) Bool.false_ne_true
     | false =>
      rw [hq, Bool.false_or] at hA
      have HA' := Aside0.mk hA
      clear hA hq
      go_wp2
      go_roundg (l0.length - (j + 1))
      case measure => omega
      case rel => exact ⟨j + 1, by go_num, by omega, by omega, HA', HB2⟩
   ·have q1 : decide ((j : Int) < (l0.length : Int)) = false := decide_eq_false (by omega)
    have HE := Aside0.mk (show l0.any mbad = false by
     rw [← HA.out, List.drop_eq_nil_of_le (by omega)]
     rfl)
    go_wp2
    go_ret
    refine ⟨?_, HB.out⟩
    rw [HRES.out]
    rfl
end Go.Proofs.Ytahpbpacjciddaa.Pr
end
section
namespace Go.Proofs.Ytahpbpacjciddaa.Pr
open Go.RowKit Go.Proofs.YtahpbpacjciddaaW.PrintWords Go.Proofs.YtahpbpacjciddaaW.PrintLast Go.Proofs.YtahpbpacjciddaaW.PrintMore
attribute [local go_sem] max2_int min2_int max_two min_two max_three min_three max_four min_four   
def merge_Clashes.l0 : Nat → Int → List (S34) → Int → Int → Option (Int × Int)
  | 0, _, _, _, _ => none
  | k + 1, x5, x13, x14, x15 => if x15 < x14 then (if 0 ≤ x15 then (if x15 < (x13.length : Int) then (if ((rd_T34 x13 x15).f0) = 5 then (merge_Clashes.l0 k (wrap64 (x5 + 1)) x13 x14 (wrap64 (x15 + 1))) else (merge_Clashes.l0 k x5 x13 x14 (wrap64 (x15 + 1)))) else (none)) else (none)) else (some (x5, 0))
def merge_Clashes.f (k : Nat) (l0 : List (S34)) : Option (Int × Int) := (merge_Check.f l0).bind fun t168 => (if t168 = 0 then (merge_Clashes.l0 k 0 l0 (l0.length : Int) 0) else (some (0, t168)))
set_option maxHeartbeats 8000000 in
set_option maxRecDepth 100000 in
theorem merge_Clashes.calls (k : Nat) (A0 : Option Addr) (c0 : Nat) (l0 : List (S34)) (r1 : Int) (r2 : Int) (w : World) (hr0 : Kd.C k34 w A0 l0.length l0) (hc0 : l0.length ≤ c0) (h : merge_Clashes.f k l0 = some (r1, r2)) :
  Calls Try.prog 21 #[.slice A0 l0.length c0] w fun e w' => e = .returned (.tuple #[.int .i64 r1, .int .i64 r2]) ∧ Below w.heap.size w w' := by
 have hu34 := Try.underlying34
 have HR0 := Aside0.mk hr0
 have HC0 := Aside0.mk hc0
 clear hr0 hc0
 have HB := Aside0.mk (Below.refl w.heap.size w)
 have H : ((merge_Check.f l0).bind fun t168 => (if t168 = 0 then (merge_Clashes.l0 k 0 l0 (l0.length : Int) 0) else (some (0, t168)))) = some (r1, r2) := h
 clear h
 replace H := Option.bind_eq_some_iff.mp H
 obtain ⟨t168, A20, H⟩ := H
 replace H : (if t168 = 0 then (merge_Clashes.l0 k 0 l0 (l0.length : Int) 0) else (some (0, t168))) = some (r1, r2) := H
 have A2 := Aside0.mk A20
 clear A20
 by_cases c3 : t168 = 0
 ·rw [if_pos c3] at H
  have c3b0 : (t168 == 0) = true := beq_iff_eq.mpr c3
  have c3b1 : (t168 != 0) = false := bne_eq_false_iff_eq.mpr c3
  clear c3
  have H' := Aside0.mk H
  clear H
  go_enter Try.func21, Try.ntmps21
  go_wp2_with (first | ((with_reducible refine gate_callee (f := 20) rfl ?_); refine goesL_ (some 9) rfl rfl Try.func20 (by kernel_rfl) rfl #[.slice A0 l0.length c0] rfl (by (try simp only [List.map_toArray, List.map_cons, List.map_nil]); first | done | rfl | (simp only [List.length_drop, List.length_take]; rfl)) ?_; (with_reducible refine (merge_Check.calls _ _ l0 t168 _ ?side1 ?side2 A2.out).mono ?_); (case side1 => repeat (first | exact HR0.out | (with_reducible refine Kd.C_alloc ?_ _) | (with_reducible refine Kd.C_drewN ?_ _) | (with_reducible refine Kd.C_drew ?_))); (case side2 => exact HC0.out); rintro e w4 ⟨rfl, hb⟩; refine ⟨_, rfl, ?_⟩; have n0_ := Aside0.mk (below_step (by repeat (first | (with_reducible first | exact HB.out | apply below_alloc | apply pw_below_drewN | apply below_drew1) | exact HB.out)) hb); clear HB; have HB := n0_; clear n0_; (try clear hb); (try clear hb2); (try clear hk); (try clear hi)))
  go_loopg [5, 15] k (fun kq v5 v15 w' => ∃ (x5_1 : Int) (x15_1 : Int), v5 = .int .i64 x5_1 ∧ v15 = .int .i64 x15_1 ∧ Aside0 (merge_Clashes.l0 kq x5_1 l0 (l0.length : Int) x15_1 = some (r1, r2)) ∧ Aside0 (kq ≤ k) ∧ Aside0 (Below w.heap.size w w'))
  case atStart => exact ⟨(0), (0), (by first | rfl | (simp; done) | (simp [*]; done)), (by first | rfl | (simp; done) | (simp [*]; done)), H', ⟨Nat.le_refl _⟩, ⟨by repeat (first | (with_reducible first | exact HB.out | apply below_alloc | apply pw_below_drewN | apply below_drew1) | exact HB.out)⟩⟩
  case round =>
   clear H'
   try clear c2
   try clear p2
   try clear c3
   try clear c3b0
   try clear c3b1
   obtain ⟨x5_1, x15_1, rfl, rfl, HA, HK1, HB⟩ := hrel
   cases gk with
   | zero => exact absurd HA.out (by simp [merge_Clashes.l0])
   | succ k1 =>
    have H := HA.out
    clear HA
    simp only [merge_Clashes.l0] at H
    by_cases c5 : x15_1 < (l0.length : Int)
    ·rw [if_pos c5] at H
     have c5b0 : decide (x15_1 < (l0.length : Int)) = true := decide_eq_true c5
     clear c5
     by_cases c6 : 0 ≤ x15_1
     ·rw [if_pos c6] at H
      have c6b0 : decide (0 ≤ x15_1) = true := decide_eq_true c6
      clear c6
      by_cases c7 : x15_1 < (l0.length : Int)
      ·rw [if_pos c7] at H
       have c7b0 : decide (x15_1 < (l0.length : Int)) = true := decide_eq_true c7
       clear c7
       by_cases c8 : ((rd_T34 l0 x15_1).f0) = 5
       ·rw [if_pos c8] at H
        have c8b0 : (((rd_T34 l0 x15_1).f0) == 5) = true := beq_iff_eq.mpr c8
        have c8b1 : (((rd_T34 l0 x15_1).f0) != 5) = false := bne_eq_false_iff_eq.mpr c8
        clear c8
        have H' := Aside0.mk H
        clear H
        have p169 : 0 ≤ (x15_1 : Int) := of_decide_eq_true (by first | (with_reducible assumption) | assumption)
        have q169 : x15_1 < (l0.length : Int) := of_decide_eq_true (by first | (with_reducible assumption) | assumption)
        obtain ⟨ad169, A169_1, c169_1, A169_2, c169_2, A169_3, c169_3, e169, hx169_0, hx169_1, hx169_2, hx169_3, hl169_1, hi169_1, hl169_2, hi169_2, hl169_3, hi169_3⟩ := at_T34 HR0.out x15_1 p169 q169
        cases e169
        replace hx169_0 := (HB.out.cell (World.block_lt_of_cell? w _ hx169_0)).trans hx169_0
        replace hx169_1 := (HB.out.cell (World.block_lt_of_cell? w _ hx169_1)).trans hx169_1
        replace hx169_2 := (HB.out.cell (World.block_lt_of_cell? w _ hx169_2)).trans hx169_2
        replace hx169_3 := (HB.out.cell (World.block_lt_of_cell? w _ hx169_3)).trans hx169_3
        have HR169_1 := Aside0.mk hi169_1
        have HC169_1 := Aside0.mk hl169_1
        clear hi169_1 hl169_1
        have HR169_2 := Aside0.mk hi169_2
        have HC169_2 := Aside0.mk hl169_2
        clear hi169_2 hl169_2
        have HR169_3 := Aside0.mk hi169_3
        have HC169_3 := Aside0.mk hl169_3
        clear hi169_3 hl169_3
        replace p169 := eq_true p169
        replace q169 := eq_true q169
        go_wp2_with (first | ((with_reducible refine gate_dst (N := 7) rfl ?_); refine box_event ?hg (N := 7) ?hd (cs := #[.int .u8 0, .slice none 0 0, .slice none 0 0, .slice none 0 0]) (t := 34) ?hr ?_; (case hd => rfl); (case hg => rfl); (case hr => first | (go_simp; done) | (go_simp; rfl)); intro gb170 hg w9 hbox hb; have n0_ := Aside0.mk (below_step (by repeat (first | (with_reducible first | exact HB.out | apply below_alloc | apply pw_below_drewN | apply below_drew1) | exact HB.out)) hb); have n1_ := Aside0.mk (hbox); have n2_ := Aside0.mk ((by rw [hg]; exact (below_size (by repeat (first | (with_reducible first | exact HB.out | apply below_alloc | apply pw_below_drewN | apply below_drew1) | exact HB.out))) : w.heap.size ≤ gb170)); have n3_ := Aside0.mk ((by rw [hg]; exact (below_size (by repeat (first | (with_reducible first | exact HB.out | apply below_alloc | apply pw_below_drewN | apply below_drew1) | exact HB.out))) : w.heap.size ≤ gb170)); clear HB; have HB := n0_; have BK170 := n1_; have GW170 := n2_; have GE170 := n3_; clear n0_ n1_ n2_ n3_; clear hb hbox hg; have hcz10_0 : w9.cell? ⟨gb170, 0, none⟩ = some (.int .u8 0) := (blk_cell BK170.out 0).trans rfl; have hcz10_1 : w9.cell? ⟨gb170, 1, none⟩ = some (.slice none 0 0) := (blk_cell BK170.out 1).trans rfl; have hcz10_2 : w9.cell? ⟨gb170, 2, none⟩ = some (.slice none 0 0) := (blk_cell BK170.out 2).trans rfl; have hcz10_3 : w9.cell? ⟨gb170, 3, none⟩ = some (.slice none 0 0) := (blk_cell BK170.out 3).trans rfl; have hfz10_0 := blk_frozen BK170.out 0; have hfz10_1 := blk_frozen BK170.out 1; have hfz10_2 := blk_frozen BK170.out 2; have hfz10_3 := blk_frozen BK170.out 3))
        go_roundg k1
        case measure => have := HK1.out; omega
        case rel => exact ⟨(wrap64 (x5_1 + 1)), (wrap64 (x15_1 + 1)), (by first | rfl | (simp; done) | (simp [*]; done)), (by first | rfl | (simp; done) | (simp [*]; done)), H', ⟨by have := HK1.out; omega⟩, ⟨by repeat (first | (with_reducible first | exact HB.out | apply below_alloc | apply pw_below_drewN | apply below_drew1 | refine below_set ?_ GE170.out) | exact HB.out)⟩⟩
       ·rw [if_neg c8] at H
        have c8b0 : (((rd_T34 l0 x15_1).f0) == 5) = false := beq_eq_false_iff_ne.mpr c8
        have c8b1 : (((rd_T34 l0 x15_1).f0) != 5) = true := bne_iff_ne.mpr c8
        have H' := Aside0.mk H
        clear H
        have p169 : 0 ≤ (x15_1 : Int) := of_decide_eq_true (by first | (with_reducible assumption) | assumption)
        have q169 : x15_1 < (l0.length : Int) := of_decide_eq_true (by first | (with_reducible assumption) | assumption)
        obtain ⟨ad169, A169_1, c169_1, A169_2, c169_2, A169_3, c169_3, e169, hx169_0, hx169_1, hx169_2, hx169_3, hl169_1, hi169_1, hl169_2, hi169_2, hl169_3, hi169_3⟩ := at_T34 HR0.out x15_1 p169 q169
        cases e169
        replace hx169_0 := (HB.out.cell (World.block_lt_of_cell? w _ hx169_0)).trans hx169_0
        replace hx169_1 := (HB.out.cell (World.block_lt_of_cell? w _ hx169_1)).trans hx169_1
        replace hx169_2 := (HB.out.cell (World.block_lt_of_cell? w _ hx169_2)).trans hx169_2
        replace hx169_3 := (HB.out.cell (World.block_lt_of_cell? w _ hx169_3)).trans hx169_3
        have HR169_1 := Aside0.mk hi169_1
        have HC169_1 := Aside0.mk hl169_1
        clear hi169_1 hl169_1
        have HR169_2 := Aside0.mk hi169_2
        have HC169_2 := Aside0.mk hl169_2
        clear hi169_2 hl169_2
        have HR169_3 := Aside0.mk hi169_3
        have HC169_3 := Aside0.mk hl169_3
        clear hi169_3 hl169_3
        replace p169 := eq_true p169
        replace q169 := eq_true q169
        go_wp2_with (first | ((with_reducible refine gate_dst (N := 7) rfl ?_); refine box_event ?hg (N := 7) ?hd (cs := #[.int .u8 0, .slice none 0 0, .slice none 0 0, .slice none 0 0]) (t := 34) ?hr ?_; (case hd => rfl); (case hg => rfl); (case hr => first | (go_simp; done) | (go_simp; rfl)); intro gb170 hg w11 hbox hb; have n0_ := Aside0.mk (below_step (by repeat (first | (with_reducible first | exact HB.out | apply below_alloc | apply pw_below_drewN | apply below_drew1) | exact HB.out)) hb); have n1_ := Aside0.mk (hbox); have n2_ := Aside0.mk ((by rw [hg]; exact (below_size (by repeat (first | (with_reducible first | exact HB.out | apply below_alloc | apply pw_below_drewN | apply below_drew1) | exact HB.out))) : w.heap.size ≤ gb170)); have n3_ := Aside0.mk ((by rw [hg]; exact (below_size (by repeat (first | (with_reducible first | exact HB.out | apply below_alloc | apply pw_below_drewN | apply below_drew1) | exact HB.out))) : w.heap.size ≤ gb170)); clear HB; have HB := n0_; have BK170 := n1_; have GW170 := n2_; have GE170 := n3_; clear n0_ n1_ n2_ n3_; clear hb hbox hg; have hcz12_0 : w11.cell? ⟨gb170, 0, none⟩ = some (.int .u8 0) := (blk_cell BK170.out 0).trans rfl; have hcz12_1 : w11.cell? ⟨gb170, 1, none⟩ = some (.slice none 0 0) := (blk_cell BK170.out 1).trans rfl; have hcz12_2 : w11.cell? ⟨gb170, 2, none⟩ = some (.slice none 0 0) := (blk_cell BK170.out 2).trans rfl; have hcz12_3 : w11.cell? ⟨gb170, 3, none⟩ = some (.slice none 0 0) := (blk_cell BK170.out 3).trans rfl; have hfz12_0 := blk_frozen BK170.out 0; have hfz12_1 := blk_frozen BK170.out 1; have hfz12_2 := blk_frozen BK170.out 2; have hfz12_3 := blk_frozen BK170.out 3))
        go_roundg k1
        case measure => have := HK1.out; omega
        case rel => exact ⟨(x5_1), (wrap64 (x15_1 + 1)), (by first | rfl | (simp; done) | (simp [*]; done)), (by first | rfl | (simp; done) | (simp [*]; done)), H', ⟨by have := HK1.out; omega⟩, ⟨by repeat (first | (with_reducible first | exact HB.out | apply below_alloc | apply pw_below_drewN | apply below_drew1 | refine below_set ?_ GE170.out) | exact HB.out)⟩⟩
      ·rw [if_neg c7] at H
       exact absurd H (by simp)
     ·rw [if_neg c6] at H
      exact absurd H (by simp)
    ·rw [if_neg c5] at H
     have c5b0 : decide (x15_1 < (l0.length : Int)) = false := decide_eq_false c5
     clear c5
     simp only [Option.some.injEq, Prod.mk.injEq] at H
     obtain ⟨rfl, rfl⟩ := H
     go_wp2
     go_ret2
     exact ⟨by first | rfl | (simp [errW_none, errW_some] <;> rfl) | (simp [*, errW_none, errW_some] <;> rfl), by repeat (first | (with_reducible first | exact HB.out | apply below_alloc | apply pw_below_drewN | apply below_drew1) | exact HB.out)⟩
 ·rw [if_neg c3] at H
  have c3b0 : (t168 == 0) = false := beq_eq_false_iff_ne.mpr c3
  have c3b1 : (t168 != 0) = true := bne_iff_ne.mpr c3
  simp only [Option.some.injEq, Prod.mk.injEq] at H
  obtain ⟨rfl, rfl⟩ := H
  go_enter Try.func21, Try.ntmps21
  go_wp2_with (first | ((with_reducible refine gate_callee (f := 20) rfl ?_); refine goesL_ (some 9) rfl rfl Try.func20 (by kernel_rfl) rfl #[.slice A0 l0.length c0] rfl (by (try simp only [List.map_toArray, List.map_cons, List.map_nil]); first | done | rfl | (simp only [List.length_drop, List.length_take]; rfl)) ?_; (with_reducible refine (merge_Check.calls _ _ l0 t168 _ ?side1 ?side2 A2.out).mono ?_); (case side1 => repeat (first | exact HR0.out | (with_reducible refine Kd.C_alloc ?_ _) | (with_reducible refine Kd.C_drewN ?_ _) | (with_reducible refine Kd.C_drew ?_))); (case side2 => exact HC0.out); rintro e w13 ⟨rfl, hb⟩; refine ⟨_, rfl, ?_⟩; have n0_ := Aside0.mk (below_step (by repeat (first | (with_reducible first | exact HB.out | apply below_alloc | apply pw_below_drewN | apply below_drew1) | exact HB.out)) hb); clear HB; have HB := n0_; clear n0_; (try clear hb); (try clear hb2); (try clear hk); (try clear hi)))
  go_ret2
  exact ⟨by first | rfl | (simp [errW_none, errW_some] <;> rfl) | (simp [*, errW_none, errW_some] <;> rfl), by repeat (first | (with_reducible first | exact HB.out | apply below_alloc | apply pw_below_drewN | apply below_drew1) | exact HB.out)⟩
end Go.Proofs.Ytahpbpacjciddaa.Pr
end
