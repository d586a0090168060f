/- Part 18 of the proof of MarkDoes: texts put together. -/
import Derived.Test.YtpklfaglenkdaaaDoorJMarkDoes4
import Derived.Test.YtpklfaglenkdaaaDoorJMarkDoes7
import Derived.Test.YtpklfaglenkdaaaDoorJMarkDoes17
set_option linter.unusedVariables false
set_option linter.unusedSimpArgs false
section
namespace Go.Proofs.YtpklfaglenkdaaaDoor.Pr
open Go.RowKit Go.Proofs.YtpklfaglenkdaaaDoorW.PrintWords Go.Proofs.YtpklfaglenkdaaaDoorW.PrintLast Go.Proofs.YtpklfaglenkdaaaDoorW.PrintMore
attribute [local go_sem] max2_int min2_int max_two min_two max_three min_three max_four min_four   
def sidingref19_until.l0 : Nat → List ByteArray → List ByteArray → Int → Option (List ByteArray × Int)
 | 0, _, _, _ => none
 | k + 1, x0, x4, x5 => if x5 < (x0.length : Int) then (if 0 ≤ x5 then ((sidingref19_Mark.f (rdOf ByteArray.empty x0 x5)).bind fun t412 => (if t412 ≥ 0 then (some (x4, x5)) else ((sidingref19_before.f k (rdOf ByteArray.empty x0 x5)).bind fun t414 => (if x4.length < 8796093022208 then (sidingref19_until.l0 k x0 (x4 ++ [t414]) (wrap64 (x5 + 1))) else (none))))) else (none)) else (some (x4, (x0.length : Int)))
def sidingref19_until.f (k : Nat) (l0 : List ByteArray) : Option (List ByteArray × Int) := sidingref19_until.l0 k l0 ([] : List ByteArray) 0
set_option maxHeartbeats 8000000 in
set_option maxRecDepth 100000 in
theorem sidingref19_until.calls (k : Nat) (A0 : Option Addr) (c0 : Nat) (l0 : List ByteArray) (r1 : List ByteArray) (r2 : Int) (w : World) (hr0 : Kd.C Kd.string w A0 l0.length l0) (hc0 : l0.length ≤ c0) (h : sidingref19_until.f k l0 = some (r1, r2)) :
  Calls Tryd.prog 37 #[.slice A0 l0.length c0] w fun e w' => ∃ v0_ : Value, e = .returned (.tuple #[v0_, .int .i64 r2]) ∧ Kd.R Kd.string 9 w' w.heap.size (fun _ => True) v0_ r1 ∧ Below w.heap.size w w' := by
 have HR0 := Aside0.mk hr0
 have HC0 := Aside0.mk hc0
 clear hr0 hc0
 have HB := Aside0.mk (Below.refl w.heap.size w)
 have H : (sidingref19_until.l0 k l0 ([] : List ByteArray) 0) = some (r1, r2) := h
 clear h
 have H' := Aside0.mk H
 clear H
 go_enter Tryd.func37, Tryd.ntmps37
 go_wp2
 go_loopg [4, 5] k (fun kq v4 v5 w' => ∃ (x4_1 : List ByteArray) (x5_1 : Int), v5 = .int .i64 x5_1 ∧ Aside0 (sidingref19_until.l0 kq l0 x4_1 x5_1 = some (r1, r2)) ∧ Aside0 (kq ≤ k) ∧ Aside0 (Kd.R Kd.string 9 w' w.heap.size (fun _ => True) v4 x4_1) ∧ Aside0 (Below w.heap.size w w'))
 case atStart => exact ⟨(([] : List ByteArray)), (0), (by first | rfl | (simp; done) | (simp [*]; done)), H', ⟨Nat.le_refl _⟩, ⟨by first | exact Kd.R_nil _ _ _ _ _ | exact Kd.N_nil _ _ _ _ _ | exact Kd.V_nil _ _ _ _ _ | exact Kd.Q_nil _ _ _ _ _ | exact Kd.S_nil _ _ _ _ _⟩, ⟨by repeat (first | (with_reducible first | exact HB.out | apply below_alloc | apply pw_below_drewN | apply below_drew1) | exact HB.out)⟩⟩
 case round =>
  clear H'
  obtain ⟨x4_1, x5_1, rfl, HA, HK1, HO_4, HB⟩ := hrel
  cases gk with
  | zero => exact absurd HA.out (by simp [sidingref19_until.l0])
  | succ k1 =>
   have H := HA.out
   clear HA
   simp only [sidingref19_until.l0] at H
   by_cases c2 : x5_1 < (l0.length : Int)
   ·rw [if_pos c2] at H
    have c2b0 : decide (x5_1 < (l0.length : Int)) = true := decide_eq_true c2
    clear c2
    by_cases c3 : 0 ≤ x5_1
    ·rw [if_pos c3] at H
     have c3b0 : decide (0 ≤ x5_1) = true := decide_eq_true c3
     clear c3
     replace H := Option.bind_eq_some_iff.mp H
     obtain ⟨t412, A40, H⟩ := H
     replace H : (if t412 ≥ 0 then (some (x4_1, x5_1)) else ((sidingref19_before.f k1 (rdOf ByteArray.empty l0 x5_1)).bind fun t414 => (if x4_1.length < 8796093022208 then (sidingref19_until.l0 k1 l0 (x4_1 ++ [t414]) (wrap64 (x5_1 + 1))) else (none)))) = some (r1, r2) := H
     have A4 := Aside0.mk A40
     clear A40
     by_cases c5 : t412 ≥ 0
     ·rw [if_pos c5] at H
      have c5b0 : decide (0 ≤ t412) = true := decide_eq_true c5
      clear c5
      simp only [Option.some.injEq, Prod.mk.injEq] at H
      obtain ⟨rfl, rfl⟩ := H
      have p411 : 0 ≤ (x5_1 : Int) := of_decide_eq_true (by first | (with_reducible assumption) | assumption)
      have q411 : x5_1 < (l0.length : Int) := of_decide_eq_true (by first | (with_reducible assumption) | assumption)
      obtain ⟨ad411, e411, hx411_0⟩ := Kd.at_string HR0.out x5_1 p411 q411
      cases e411
      replace hx411_0 := (HB.out.cell (World.block_lt_of_cell? w _ hx411_0)).trans hx411_0
      replace p411 := eq_true p411
      replace q411 := eq_true q411
      go_wp2_with (first | ((with_reducible refine gate_callee (f := 26) rfl ?_); refine goesL_ (some 16) rfl rfl Tryd.func26 (by kernel_rfl) rfl #[.string (rdOf ByteArray.empty l0 x5_1)] rfl (by (try simp only [List.map_toArray, List.map_cons, List.map_nil]); first | done | rfl | (simp only [List.length_drop, List.length_take]; rfl)) ?_; (with_reducible refine (sidingref19_Mark.calls (rdOf ByteArray.empty l0 x5_1) t412 _ A4.out).mono ?_); rintro e w' ⟨rfl, ⟨nd, rfl⟩⟩; refine ⟨_, rfl, ?_⟩))
      go_ret2
      exact ⟨_, by first | rfl | (simp [errW_none, errW_some] <;> rfl) | (simp [*, errW_none, errW_some] <;> rfl), by (with_reducible repeat (first | apply Kd.R_alloc | apply Kd.R_drewN | apply Kd.R_drew)); exact HO_4.out, by repeat (first | (with_reducible first | exact HB.out | apply below_alloc | apply pw_below_drewN | apply below_drew1) | exact HB.out)⟩
     ·rw [if_neg c5] at H
      have c5b0 : decide (0 ≤ t412) = false := decide_eq_false c5
      clear c5
      replace H := Option.bind_eq_some_iff.mp H
      obtain ⟨t414, A60, H⟩ := H
      replace H : (if x4_1.length < 8796093022208 then (sidingref19_until.l0 k1 l0 (x4_1 ++ [t414]) (wrap64 (x5_1 + 1))) else (none)) = some (r1, r2) := H
      have A6 := Aside0.mk A60
      clear A60
      by_cases c7 : x4_1.length < 8796093022208
      ·rw [if_pos c7] at H
       have LMc7 := Aside0.mk c7
       clear c7
       obtain ⟨y415, hy415⟩ : ∃ y_ : List ByteArray, y_ = (x4_1 ++ [t414]) := ⟨_, rfl⟩
       replace H : (sidingref19_until.l0 k1 l0 y415 (wrap64 (x5_1 + 1))) = some (r1, r2) := by first | (rw [hy415]; with_reducible exact H) | (have H2_ := (Option.bind_some _ _).symm.trans H; rw [hy415]; with_reducible exact H2_) | (have H2_ := (Option.bind_some _ _).symm.trans H; with_reducible exact H2_) | with_reducible exact H | (rw [hy415]; exact H) | exact H
       have Ny415 := Aside0.mk hy415
       clear hy415
       have H' := Aside0.mk H
       clear H
       have p411 : 0 ≤ (x5_1 : Int) := of_decide_eq_true (by first | (with_reducible assumption) | assumption)
       have q411 : x5_1 < (l0.length : Int) := of_decide_eq_true (by first | (with_reducible assumption) | assumption)
       obtain ⟨ad411, e411, hx411_0⟩ := Kd.at_string HR0.out x5_1 p411 q411
       cases e411
       replace hx411_0 := (HB.out.cell (World.block_lt_of_cell? w _ hx411_0)).trans hx411_0
       replace p411 := eq_true p411
       replace q411 := eq_true q411
       go_wp2_with (first | ((with_reducible refine gate_callee (f := 26) rfl ?_); refine goesL_ (some 16) rfl rfl Tryd.func26 (by kernel_rfl) rfl #[.string (rdOf ByteArray.empty l0 x5_1)] rfl (by (try simp only [List.map_toArray, List.map_cons, List.map_nil]); first | done | rfl | (simp only [List.length_drop, List.length_take]; rfl)) ?_; (with_reducible refine (sidingref19_Mark.calls (rdOf ByteArray.empty l0 x5_1) t412 _ A4.out).mono ?_); rintro e w' ⟨rfl, ⟨nd, rfl⟩⟩; refine ⟨_, rfl, ?_⟩; have p413 : 0 ≤ (x5_1 : Int) := of_decide_eq_true (by first | (with_reducible assumption) | assumption); have q413 : x5_1 < (l0.length : Int) := of_decide_eq_true (by first | (with_reducible assumption) | assumption); obtain ⟨ad413, e413, hx413_0⟩ := Kd.at_string HR0.out x5_1 p413 q413; obtain rfl : ad411 = ad413 := (by injection e413); replace hx413_0 := (HB.out.cell (World.block_lt_of_cell? w _ hx413_0)).trans hx413_0; replace p413 := eq_true p413; replace q413 := eq_true q413) | ((with_reducible refine gate_callee (f := 53) rfl ?_); refine goesL_ (some 25) rfl rfl Tryd.func53 (by kernel_rfl) rfl #[.string (rdOf ByteArray.empty l0 x5_1)] rfl (by (try simp only [List.map_toArray, List.map_cons, List.map_nil]); first | done | rfl | (simp only [List.length_drop, List.length_take]; rfl)) ?_; (with_reducible refine (sidingref19_before.calls k1 (rdOf ByteArray.empty l0 x5_1) t414 _ A6.out).mono ?_); rintro e w' ⟨rfl, ⟨nd, rfl⟩⟩; refine ⟨_, rfl, ?_⟩) | ((with_reducible refine gate_builtin (b := .append) (xs := #[.tmp 20, .tmp 26]) rfl ?_); at_builtin; refine Kd.R_append Kd.string (w0 := w) w.heap.size rfl (.tmp 20) (.tmp 26) 23 9 (.string ⟨#[]⟩) 16 rfl Tryd.underlying23 info9 rfl (by decide) (by omega) u4 x4_1 t414 [.string t414] (fun _ => True) (fun _ => False) rfl rfl ?aP (fun _ hk => hk.elim) ?aF ?aO ?aB ?aS ?aL ?_; (case aP => exact rfl); (case aB => exact (by repeat (first | (with_reducible first | exact HB.out | apply below_alloc | apply pw_below_drewN | apply below_drew1) | exact HB.out))); (case aF => exact (fun _ _ => trivial)); (case aO => exact (by (with_reducible repeat (first | apply Kd.R_alloc | apply Kd.R_drewN | apply Kd.R_drew)); exact HO_4.out)); (case aS => exact (below_size (by repeat (first | (with_reducible first | exact HB.out | apply below_alloc | apply pw_below_drewN | apply below_drew1) | exact HB.out)))); (case aL => have := LMc7.out; omega); intro v416 w8 ho hb hg hat; rw [← Ny415.out] at ho; have n0_ := Aside0.mk (hb); have n1_ := Aside0.mk (ho); clear HB; clear HO_4; have HB := n0_; have HO417 := n1_; clear n0_ n1_; clear ho hb hg hat))
       go_roundg k1
       case measure => have := HK1.out; omega
       case rel => exact ⟨(y415), (wrap64 (x5_1 + 1)), (by first | rfl | (simp; done) | (simp [*]; done)), H', ⟨by have := HK1.out; omega⟩, ⟨by (with_reducible repeat (first | apply Kd.R_alloc | apply Kd.R_drewN | apply Kd.R_drew)); exact HO417.out⟩, ⟨by repeat (first | (with_reducible first | exact HB.out | apply below_alloc | apply pw_below_drewN | apply below_drew1) | exact HB.out)⟩⟩
      ·rw [if_neg c7] at H
       exact absurd H (by simp)
    ·rw [if_neg c3] at H
     exact absurd H (by simp)
   ·rw [if_neg c2] at H
    have c2b0 : decide (x5_1 < (l0.length : Int)) = false := decide_eq_false c2
    clear c2
    simp only [Option.some.injEq, Prod.mk.injEq] at H
    obtain ⟨rfl, rfl⟩ := H
    go_wp2
    go_ret2
    exact ⟨_, by first | rfl | (simp [errW_none, errW_some] <;> rfl) | (simp [*, errW_none, errW_some] <;> rfl), by (with_reducible repeat (first | apply Kd.R_alloc | apply Kd.R_drewN | apply Kd.R_drew)); exact HO_4.out, by repeat (first | (with_reducible first | exact HB.out | apply below_alloc | apply pw_below_drewN | apply below_drew1) | exact HB.out)⟩
end Go.Proofs.YtpklfaglenkdaaaDoor.Pr
end
section
namespace Go.Proofs.YtpklfaglenkdaaaDoor.Pr
open Go.RowKit Go.Proofs.YtpklfaglenkdaaaDoorW.PrintWords Go.Proofs.YtpklfaglenkdaaaDoorW.PrintLast Go.Proofs.YtpklfaglenkdaaaDoorW.PrintMore
def uok (u : List ByteArray × Int) (n : Nat) : Bool := decide (0 ≤ u.2) && (decide (u.2 ≤ (n : Int)) && decide (u.1.length ≤ 1000))
theorem uok_nat {u : List ByteArray × Int} {n : Nat} (h : uok u n = true) : ∃ m : Nat, u.2 = (m : Int) ∧ m ≤ n ∧ u.1.length ≤ 1000 := by
  unfold uok at h
  rw [Bool.and_eq_true, Bool.and_eq_true, decide_eq_true_eq, decide_eq_true_eq, decide_eq_true_eq] at h
  exact ⟨u.2.toNat, by omega, by omega, h.2.2⟩
def rr1 (k : Nat) (K : Int) : List ByteArray → Option (Option (List ByteArray × List ByteArray))
  | [] => some none
  | s :: t => (sidingref19_Mark.f s).bind fun m => if m = K then ((sidingref19_until.f k t).bind fun u => if uok u t.length = true then some (some (u.1, t.drop u.2.toNat)) else none) else some none
def rrS (k : Nat) : Nat → Int → List ByteArray → List ByteArray → List ByteArray → List ByteArray → Option (Option ((List ByteArray × List ByteArray × List ByteArray) × List ByteArray))
  | 0, K, x0, x1, x2, l => some (some ((x0, x1, x2), l))
  | n + 1, K, x0, x1, x2, l => (rr1 k K l).bind fun a => match a with
    | none => some none
    | some a => rrS k n (K + 1) (if K = 0 then a.1 else x0) (if K = 1 then a.1 else x1) (if K = 2 then a.1 else x2) a.2
def rrM (r : Option ((List ByteArray × List ByteArray × List ByteArray) × List ByteArray)) : Option (Option ((List ByteArray × List ByteArray × List ByteArray) × List ByteArray)) := match r with
  | none => some none
  | some (x, l2) => match l2 with
    | [] => some none
    | s :: t => (sidingref19_Mark.f s).bind fun m => if m = 3 then some (some (x, t)) else some none
def rrK (u : List ByteArray × Int) (out : List S43) : List S43 := if 0 < u.2 then out ++ [⟨1, u.1, u.1, u.1⟩] else out
def rrO (k : Nat) : Nat → List ByteArray → List S43 → Option (Option (List S43))
  | 0, _, _ => none
  | n + 1, l, out => (sidingref19_until.f k l).bind fun u => if uok u l.length = true ∧ out.length ≤ 1000 then (if l.drop u.2.toNat = [] then some (some (rrK u out)) else
      (rrS k 3 0 [] [] [] (l.drop u.2.toNat)).bind fun r => (rrM r).bind fun r => match r with
        | none => some none
        | some (x, t) => rrO k n t (rrK u out ++ [⟨5, x.2.1, x.1, x.2.2⟩])) else none
def rrE (k : Nat) (r : Option (List S43)) : Option (List S43 × Int) := match r with
  | none => some ([], 12)
  | some out => (sidingref18_Check.f k out).bind fun e => if e = 0 then some (out, 0) else some ([], 8)
def ref19_Read.f (k : Nat) (l0 : List ByteArray) : Option (List S43 × Int) := if 400 < l0.length then some ([], 4) else (rrO k (l0.length + 1) l0 []).bind (rrE k)
theorem str_from (A : Option Addr) (c : Nat) (xs : List ByteArray) (lo : Nat) (h1 : lo ≤ xs.length) (hc : xs.length ≤ c) :
    ∃ A' : Option Addr, (∀ W, (Instr.slice 23 (.slice A xs.length c) (some (.int .i64 (lo : Int))) none none).run Tryd.prog W = .ok (.slice A' (xs.drop lo).length (c - lo)) W) ∧
      (∀ W, Kd.C Kd.string W A xs.length xs → Kd.C Kd.string W A' (xs.drop lo).length (xs.drop lo)) ∧ (xs.drop lo).length ≤ c - lo := by
  obtain ⟨i0_, hi0_, _, hsz_, _⟩ := info_parts info9
  refine ⟨if c = lo then A else A.map (·.add lo), fun W => ?_, fun W h => ?_, by rw [List.length_drop]; omega⟩
  · have h := cut_from (P := Tryd.prog) 23 9 .i64 Tryd.underlying23 hi0_ 1 hsz_ A xs.length c (lo : Int) (by omega) (by omega) W
    rw [Int.toNat_natCast, Nat.mul_one] at h
    rw [List.length_drop]
    exact h
  · have h3 := Kd.C_mid h h1 (Nat.le_refl _) hc
    rw [show Kd.string.sz = 1 from rfl, Nat.mul_one, List.take_length] at h3
    exact h3
structure RS.St (W : World) (g B : Nat) (a0 a1 a2 vO : Value) (x0 x1 x2 : List ByteArray) (out : List S43) : Prop where
  blk : W.heap[g]? = some (.cells #[a0, a1, a2] 54 (0, 0))
  lt : B ≤ g
  r0 : Kd.R Kd.string 9 W (g + 1) (fun k => g < k) a0 x0
  r1 : Kd.R Kd.string 9 W (g + 1) (fun k => g < k) a1 x1
  r2 : Kd.R Kd.string 9 W (g + 1) (fun k => g < k) a2 x2
  ro : Kd.S k43 43 W B (fun k => k < g) vO out
theorem RS.keep {W W' : World} {g B : Nat} {a0 a1 a2 vO : Value} {x0 x1 x2 : List ByteArray} {out : List S43} (h : RS.St W g B a0 a1 a2 vO x0 x1 x2 out) (hb : Below W.heap.size W W') : RS.St W' g B a0 a1 a2 vO x0 x1 x2 out :=
  ⟨(hb.block _ (blk_lt h.blk)).trans h.blk, h.lt, Kd.R_below h.r0 hb, Kd.R_below h.r1 hb, Kd.R_below h.r2 hb, Kd.S_below h.ro hb⟩
theorem RS.set {W : World} {g B : Nat} {a0 a1 a2 b0 b1 b2 u vO : Value} {x0 x1 x2 y0 y1 y2 : List ByteArray} {out : List S43} (h : RS.St W g B a0 a1 a2 vO x0 x1 x2 out) (i : Nat) (hc : (#[a0, a1, a2] : Array Value).setIfInBounds i u = #[b0, b1, b2])
    (h0 : Kd.R Kd.string 9 W (g + 1) (fun k => g < k) b0 y0) (h1 : Kd.R Kd.string 9 W (g + 1) (fun k => g < k) b1 y1) (h2 : Kd.R Kd.string 9 W (g + 1) (fun k => g < k) b2 y2) : RS.St (W.setCell ⟨g, i, none⟩ u) g B b0 b1 b2 vO y0 y1 y2 out := by
  have far : ∀ k, g < k → k ≠ g := fun k hk he => by omega
  exact ⟨blk_put h.blk i u hc, h.lt, Kd.R_far h0 far _, Kd.R_far h1 far _, Kd.R_far h2 far _, Kd.S_far h.ro (fun k hk he => by have he' : k = g := he; omega) _⟩
theorem RS.new {W W' : World} {g : Nat} {v : Value} {l : List ByteArray} (hr : Kd.R Kd.string 9 W' W.heap.size (fun _ => True) v l) (hg : g < W.heap.size) : Kd.R Kd.string 9 W' (g + 1) (fun k => g < k) v l := Kd.R_lower (Kd.R_mono (Kd.R_bound hr) (fun k hk => Nat.lt_of_lt_of_le hg hk.2.1)) hg
theorem RS.low {W : World} {B s b : Nat} {v : Value} {l : List ByteArray} (h : Kd.R Kd.string 9 W b (fun _ => True) v l) (hb : s ≤ b) (hB : B ≤ s) : Kd.R Kd.string 9 W B (fun k => s ≤ k) v l := Kd.R_lower (Kd.R_mono (Kd.R_bound h) (fun k hk => Nat.le_trans hb hk.2.1)) (Nat.le_trans hB hb)
set_option maxHeartbeats 8000000 in
set_option maxRecDepth 100000 in
theorem ref19_Read.calls (k : Nat) (A0 : Option Addr) (c0 : Nat) (l0 : List ByteArray) (r1 : List S43) (r2 : Int) (w : World) (hr0 : Kd.C Kd.string w A0 l0.length l0) (hc0 : l0.length ≤ c0) (h : ref19_Read.f k l0 = some (r1, r2)) :
  Calls Tryd.prog 13 #[.slice A0 l0.length c0] w fun e w' => ∃ v0_ : Value, e = .returned (.tuple #[v0_, .int .i64 r2]) ∧ Kd.S k43 43 w' w.heap.size (fun _ => True) v0_ r1 ∧ Below w.heap.size w w' := by
 have hu := Tryd.underlying43
 unfold ref19_Read.f at h
 have HR0 := Aside0.mk hr0
 have HC0 := Aside0.mk hc0
 clear hr0 hc0
 by_cases hbig : 400 < l0.length
 ·rw [if_pos hbig] at h
  obtain ⟨rfl, rfl⟩ := Prod.mk.inj (Option.some.inj h)
  have kb0 : decide ((l0.length : Int) > 400) = true := decide_eq_true (by omega)
  have kb1 : decide ((400 : Int) < (l0.length : Int)) = true := kb0
  have kb2 : decide (400 < l0.length) = true := decide_eq_true hbig
  clear h
  go_enter Tryd.func13, Tryd.ntmps13
  go_wp2
  go_ret2
  exact ⟨_, rfl, Kd.S_nil _ _ _ _ _, Below.refl _ _⟩
 ·rw [if_neg hbig] at h
  replace h := Option.bind_eq_some_iff.1 h
  obtain ⟨RES, hres, h⟩ := h
  have HRO := Aside0.mk hres
  have HRE := Aside0.mk h
  have kb0 : decide ((l0.length : Int) > 400) = false := decide_eq_false (by omega)
  have kb1 : decide ((400 : Int) < (l0.length : Int)) = false := kb0
  have kb2 : decide (400 < l0.length) = false := decide_eq_false hbig
  have HBG := Aside0.mk (show l0.length ≤ 400 by omega)
  have HB0 := Aside0.mk (Below.refl w.heap.size w)
  have HFORM := Aside0.mk (show RES = none → r1 = [] ∧ r2 = 12 from fun hn => by
   rw [hn] at h
   obtain ⟨rfl, rfl⟩ := Prod.mk.inj (Option.some.inj h)
   exact ⟨rfl, rfl⟩)
  clear h hres hbig
  go_enter Tryd.func13, Tryd.ntmps13
  go_wp2
  go_loopg [0, 4] (l0.length + 1) (fun gg t0 t4 wr => ∃ (l : List ByteArray) (A' : Option Addr) (c' : Nat) (out : List S43), t0 = .slice A' l.length c' ∧ Aside0 (rrO k gg l out = some RES) ∧ Aside0 (l.length ≤ c' ∧ l.length ≤ 400 ∧ Kd.C Kd.string w A' l.length l) ∧ Aside0 (Kd.S k43 43 wr w.heap.size (fun _ => True) t4 out) ∧ Aside0 (Below w.heap.size w wr))
  case atStart => exact ⟨l0, A0, c0, [], rfl, HRO, ⟨HC0.out, HBG.out, HR0.out⟩, ⟨Kd.S_nil _ _ _ _ _⟩, HB0⟩
  case round =>
   clear HRO HB0
   obtain ⟨l, A', c', out, rfl, HRO, HL, HS, HBL⟩ := hrel
   obtain ⟨AO, cO, rfl⟩ := Kd.S_slice HS.out
   cases gk with
   | zero => exact absurd HRO.out (by simp [rrO])
   | succ n =>
    have h := HRO.out
    unfold rrO at h
    replace h := Option.bind_eq_some_iff.1 h
    obtain ⟨⟨x, u2⟩, hun, h⟩ := h
    by_cases hg : uok (x, u2) l.length = true ∧ out.length ≤ 1000
    case neg => rw [if_neg hg] at h; cases h
    rw [if_pos hg] at h
    obtain ⟨un, hun2, hunl, hxl⟩ := uok_nat hg.1
    have hu2 : u2 = (un : Int) := hun2
    subst hu2
    dsimp only at h hxl hunl
    rw [Int.toNat_natCast] at h
    have HUN := Aside0.mk hun
    have HXL := Aside0.mk hxl
    have HOL := Aside0.mk hg.2
    have HH := Aside0.mk h
    obtain ⟨A1, hsl, hC1, hc1⟩ := str_from A' c' l un hunl HL.out.1
    have HC1 := Aside0.mk (hC1 w HL.out.2.2)
    have HCC1 := Aside0.mk hc1
    have HUL := Aside0.mk hunl
    clear h hun hg hun2 hunl hxl HRO hC1 hc1
    go_upto_region 5 with (go_at_call 37; (with_reducible refine (sidingref19_until.calls k A' c' l x (un : Int) _ (Kd.C_below HL.out.2.2 HBL.out) HL.out.1 HUN.out).mono ?_); rintro e_ w1 ⟨v5, rfl, hr5, hb1⟩; obtain ⟨A5, c5, rfl⟩ := Kd.R_slice hr5; have HR5 := Aside0.mk hr5; have HB1 := Aside0.mk hb1; clear hr5 hb1)
    have HS1 := Aside0.mk (Kd.S_below (Kd.S_mono (Kd.S_bound HS.out) (fun k hk => hk.2.2.1)) HB1.out)
    have HBL1 := Aside0.mk (show Below w.heap.size w w1 from Below.trans HBL.out (Below.mono HB1.out (Below.size HBL.out)))
    have HSZ0 := Aside0.mk (show w.heap.size ≤ wr.heap.size from Below.size HBL.out)
    have HSZ1 := Aside0.mk (show wr.heap.size ≤ w1.heap.size from Below.size HB1.out)
    clear HS HBL
    obtain ⟨b, hb⟩ : ∃ b, b = decide ((un : Int) > 0) := ⟨_, rfl⟩
    have HBB := Aside0.mk hb
    clear hb
    go_cut [20] (fun s20 wc => s20 = .bool b ∧ wc = w1)
    case first =>
     have q0 : decide ((un : Int) > 0) = b := HBB.out.symm
     have q1 : decide ((0 : Int) < (un : Int)) = b := HBB.out.symm
     have q2 : decide (0 < un) = b := by rw [HBB.out]; exact decide_eq_decide.2 (by omega)
     go_wp2
     go_meet
     exact ⟨by first | rfl | simp [q0, q1, q2], rfl⟩
    case rest =>
    rename_i hK_
    obtain ⟨rfl, hw_⟩ := hcut
    have hw2_ := hw_.symm
    subst hw2_
    refine hK_ _ _ ?_
    clear hK_
    go_cut [4] (fun s4 wc => Aside0 (Kd.S k43 43 wc w.heap.size (fun _ => True) s4 (rrK (x, (un : Int)) out)) ∧ Aside0 (Below w.heap.size w wc))
    case first =>
     by_cases hpos : 0 < un
     ·have HK := Aside0.mk (show rrK (x, (un : Int)) out = out ++ [⟨1, x, x, x⟩] from if_pos (by show (0 : Int) < (un : Int); omega))
      have hbt : b = true := by rw [HBB.out]; exact decide_eq_true (by omega)
      rw [hbt]
      clear hbt
      have CS1 := Aside0.mk (Kd.R_reads' HR5.out).2.2
      clear hpos hsl
      go_wp2_with (first | ((with_reducible refine gate_dst (N := 23) rfl ?_); (try (refine gate_guard (by rfl) ?_; dsimp only)); refine Kd.R_lit Kd.string _ 9 ?hg (N := 23) ?hd (xs := ([] : List ByteArray)) (inner := []) (ok := fun _ => True) (okp := fun _ => True) ?hr ?hp (fun _ hk => hk) trivial (Below.refl _ _) (Nat.le_refl _) (by simp) ?_; (case hd => rfl); (case hg => rfl); (case hr => first | (go_simp; done) | (go_simp; rfl)); (case hp => exact (Reps.none _ _)); intro e1 u1 ho hb _ _; have VE1 := Aside0.mk ho; have BE1 : Aside0 (Below w1.heap.size w1 u1) := ⟨hb⟩; clear ho hb) | ((with_reducible refine gate_builtin (b := .append) (xs := #[.tmp 23, .tmp 24]) rfl ?_); (try (refine gate_guard (by rfl) ?_; dsimp only)); at_builtin; refine Kd.R_append_rows Kd.string (w0 := w1) w1.heap.size rfl (.tmp 23) (.tmp 24) 23 9 (.string ⟨#[]⟩) 16 rfl Tryd.underlying23 info9 rfl (by decide) (by omega) e1 ([] : List ByteArray) x _ _ _ (fun _ => True) (fun _ => False) rfl rfl VE1.out (Kd.C_below CS1.out BE1.out) (fun _ _ h => h) (fun _ h => h.elim) (fun _ _ => trivial) BE1.out (Below.size BE1.out) (by have := HXL.out; simp only [List.length_nil]; omega) ?_; intro f1 x1 ho hb _ _; rw [List.nil_append] at ho; obtain ⟨AF1, cF1, rfl⟩ := Kd.R_slice ho; have VF1 := Aside0.mk ho; have BF1 := Aside0.mk hb; clear ho hb; have CS2 := Aside0.mk (Kd.C_below CS1.out BF1.out)) | ((with_reducible refine gate_dst (N := 26) rfl ?_); (try (refine gate_guard (by rfl) ?_; dsimp only)); refine Kd.R_lit Kd.string _ 9 ?hg (N := 26) ?hd (xs := ([] : List ByteArray)) (inner := []) (ok := fun _ => True) (okp := fun _ => True) ?hr ?hp (fun _ hk => hk) trivial (Below.refl _ _) (Nat.le_refl _) (by simp) ?_; (case hd => rfl); (case hg => rfl); (case hr => first | (go_simp; done) | (go_simp; rfl)); (case hp => exact (Reps.none _ _)); intro e2 u2 ho hb _ _; have VE2 := Aside0.mk ho; have BE2 : Aside0 (Below x1.heap.size x1 u2) := ⟨hb⟩; clear ho hb) | ((with_reducible refine gate_builtin (b := .append) (xs := #[.tmp 26, .tmp 27]) rfl ?_); (try (refine gate_guard (by rfl) ?_; dsimp only)); at_builtin; refine Kd.R_append_rows Kd.string (w0 := x1) x1.heap.size rfl (.tmp 26) (.tmp 27) 23 9 (.string ⟨#[]⟩) 16 rfl Tryd.underlying23 info9 rfl (by decide) (by omega) e2 ([] : List ByteArray) x _ _ _ (fun _ => True) (fun _ => False) rfl rfl VE2.out (Kd.C_below CS2.out BE2.out) (fun _ _ h => h) (fun _ h => h.elim) (fun _ _ => trivial) BE2.out (Below.size BE2.out) (by have := HXL.out; simp only [List.length_nil]; omega) ?_; intro f2 x2 ho hb _ _; rw [List.nil_append] at ho; obtain ⟨AF2, cF2, rfl⟩ := Kd.R_slice ho; have VF2 := Aside0.mk ho; have BF2 := Aside0.mk hb; clear ho hb; have CS3 := Aside0.mk (Kd.C_below CS2.out BF2.out)) | ((with_reducible refine gate_builtin (b := .append) (xs := #[.tmp 21, .tmp 30]) rfl ?_); (try (refine gate_guard (by rfl) ?_; dsimp only)); at_builtin; have HSX := Aside0.mk (Kd.S_below (Kd.S_below HS1.out BF1.out) BF2.out); have HZX := Aside0.mk (show w1.heap.size ≤ x1.heap.size ∧ x1.heap.size ≤ x2.heap.size from ⟨Below.size BF1.out, Below.size BF2.out⟩); have HR5X := Aside0.mk (Kd.R_below (Kd.R_below HR5.out BF1.out) BF2.out); have VF1X := Aside0.mk (Kd.R_below VF1.out BF2.out); refine Kd.S_append k43 (w0 := x2) w.heap.size rfl (.tmp 21) (.tmp 30) 22 43 (.agg #[.int .u8 0, .slice none 0 0, .slice none 0 0, .slice none 0 0]) 80 rfl Tryd.underlying22 info43 rfl (by decide) (by omega) (.slice AO out.length cO) out ⟨1, x, x, x⟩ [.int .u8 1, .slice A5 x.length c5, .slice AF1 x.length cF1, .slice AF2 x.length cF2] (fun _ => True) (fun k => wr.heap.size ≤ k) rfl rfl (k43_mkM _ _ _ ⟨1, x, x, x⟩ (RS.low HR5X.out (Nat.le_refl _) HSZ0.out) (RS.low VF1X.out HSZ1.out HSZ0.out) (RS.low VF2.out (Nat.le_trans HSZ1.out HZX.out.1) HSZ0.out)) (fun k hk => ⟨trivial, fun he => by have h_ := MR.sown HSX.out k he.symm; omega⟩) (fun _ _ => trivial) (Kd.S_mono HSX.out (fun k hk => ⟨trivial, by omega⟩)) (Below.refl _ _) (by have h_ := HSZ0.out; have h2_ := HSZ1.out; have h3_ := HZX.out; omega) (by have h_ := HOL.out; omega) ?_; intro v9 w5 hs9 hb9 hg9 hat9; obtain ⟨A9, c9, rfl⟩ := Kd.S_slice hs9; obtain ⟨o9, ho9⟩ : ∃ o9, o9 = out ++ [⟨1, x, x, x⟩] := ⟨_, rfl⟩; rw [← ho9] at hs9 ⊢; have HO9 := Aside0.mk ho9; have HS5 := Aside0.mk hs9; have HB5 := Aside0.mk hb9; clear hs9 hb9 hg9 hat9 ho9))
      go_meet
      rw [HK.out, ← HO9.out]
      exact ⟨HS5, ⟨Below.trans HBL1.out (Below.trans (Below.mono BF1.out (Nat.le_trans HSZ0.out HSZ1.out)) (Below.trans (Below.mono BF2.out (Nat.le_trans (Nat.le_trans HSZ0.out HSZ1.out) (Below.size BF1.out))) HB5.out))⟩⟩
     ·have HK := Aside0.mk (show rrK (x, (un : Int)) out = out from if_neg (by show ¬ (0 : Int) < (un : Int); omega))
      have hbt : b = false := by rw [HBB.out]; exact decide_eq_false (by omega)
      rw [hbt]
      clear hbt
      clear hpos hsl
      go_wp2
      go_meet
      rw [HK.out]
      exact ⟨⟨Kd.S_mono HS1.out (fun _ _ => trivial)⟩, HBL1⟩
    case rest =>
     clear HS1 HBL1 HR5 HB1 HSZ0 HSZ1
     obtain ⟨HS, HBL⟩ := hcut
     obtain ⟨o4, ho4⟩ : ∃ o4, o4 = rrK (x, (un : Int)) out := ⟨_, rfl⟩
     obtain ⟨l1, hl1⟩ : ∃ l1, l1 = l.drop un := ⟨_, rfl⟩
     obtain ⟨m1, hm1⟩ : ∃ m1, m1 = l1.length := ⟨_, rfl⟩
     have h := HH.out
     rw [← ho4, ← hl1] at h
     have hS4 := HS.out
     rw [← ho4] at hS4
     obtain ⟨A4, c4, rfl⟩ := Kd.S_slice hS4
     have HS4 := Aside0.mk hS4
     have HO4L := Aside0.mk (show o4.length ≤ 1001 by have h_ := HOL.out; rw [ho4]; unfold rrK; split; (rw [List.length_append]; simp; omega); omega)
     have hC1_ := HC1.out
     have hc1_ := HCC1.out
     rw [← hl1] at hC1_ hc1_ hsl
     rw [← hm1] at hsl
     have HD1 := Aside0.mk hC1_
     have HE1 := Aside0.mk hc1_
     have HM1 := Aside0.mk hm1
     have HLE1 := Aside0.mk (show l1.length ≤ 400 by have h_ := HL.out.2.1; rw [hl1, List.length_drop]; omega)
     clear HS hS4 hC1_ hc1_ hl1 HC1 HCC1 HH ho4
     by_cases hnil : l1 = []
     ·rw [if_pos hnil] at h
      have hm0 : m1 = 0 := by rw [hm1, hnil]; rfl
      subst hm0
      obtain rfl := Option.some.inj h
      have hg := HRE.out
      unfold rrE at hg
      replace hg := Option.bind_eq_some_iff.1 hg
      obtain ⟨ce, hce, hg⟩ := hg
      have HCE := Aside0.mk hce
      have HHG := Aside0.mk hg
      clear h hg hce hnil
      by_cases hz : ce = 0
      ·subst hz
       obtain ⟨rfl, rfl⟩ := Prod.mk.inj (Option.some.inj ((if_pos rfl).symm.trans HHG.out))
       go_wp2_with (go_at_call 23; (with_reducible refine (sidingref18_Check.calls k A4 c4 o4 0 _ (Kd.S_reads' HS4.out).2.2 (Kd.S_reads' HS4.out).2.1 HCE.out).mono ?_); rintro e_ w7 ⟨rfl, hb7⟩; have HB7 := Aside0.mk hb7; clear hb7)
       go_ret2
       exact ⟨_, rfl, Kd.S_below HS4.out HB7.out, Below.trans HBL.out (Below.mono HB7.out (Below.size HBL.out))⟩
      ·obtain ⟨rfl, rfl⟩ := Prod.mk.inj (Option.some.inj ((if_neg hz).symm.trans HHG.out))
       have z1 : (ce == 0) = false := beq_eq_false_iff_ne.2 hz
       clear hz
       go_wp2_with (go_at_call 23; (with_reducible refine (sidingref18_Check.calls k A4 c4 o4 ce _ (Kd.S_reads' HS4.out).2.2 (Kd.S_reads' HS4.out).2.1 HCE.out).mono ?_); rintro e_ w7 ⟨rfl, hb7⟩; have HB7 := Aside0.mk hb7; clear hb7)
       go_ret2
       exact ⟨_, rfl, Kd.S_nil _ _ _ _ _, Below.trans HBL.out (Below.mono HB7.out (Below.size HBL.out))⟩
     ·rw [if_neg hnil] at h
      replace h := Option.bind_eq_some_iff.1 h
      obtain ⟨R3, hR3, h⟩ := h
      replace h := Option.bind_eq_some_iff.1 h
      obtain ⟨RB, hRB, h⟩ := h
      have hm0 : 0 < m1 := by rw [hm1]; exact List.length_pos_iff.2 hnil
      have HFB := Aside0.mk (show RB = none → r1 = [] ∧ r2 = 12 from fun hn => HFORM.out (by rw [hn] at h; exact (Option.some.inj h).symm))
      have HF3 := Aside0.mk (show R3 = none → r1 = [] ∧ r2 = 12 from fun hn => HFB.out (by rw [hn] at hRB; exact (Option.some.inj hRB).symm))
      have HR3 := Aside0.mk hR3
      have HRB := Aside0.mk hRB
      have HRN := Aside0.mk h
      have m0 : ((m1 : Int) == 0) = false := beq_eq_false_iff_ne.2 (by omega)
      have m2_ : decide ((m1 : Int) = 0) = false := decide_eq_false (by omega)
      have m3_ : (m1 == 0) = false := beq_eq_false_iff_ne.2 (by omega)
      have m4_ : (m1 = 0) = False := eq_false (by omega)
      clear h hR3 hRB hnil hm0 hm1
      go_upto_region 10 with fail
      obtain ⟨g, hg⟩ : ∃ g, g = wc.heap.size := ⟨_, rfl⟩
      obtain ⟨W3, hW3⟩ : ∃ W3, W3 = wc.alloc (Obj.cells #[(.slice none 0 0), (.slice none 0 0), (.slice none 0 0)] 54) := ⟨_, rfl⟩
      rw [← hW3, ← hg]
      have HBA := Aside0.mk (show Below wc.heap.size wc W3 by rw [hW3]; exact (Below.refl _ _).alloc (Nat.le_refl _) _)
      have HGB := Aside0.mk (show w.heap.size ≤ g by rw [hg]; exact Below.size HBL.out)
      have HST := Aside0.mk (show RS.St W3 g w.heap.size (.slice none 0 0) (.slice none 0 0) (.slice none 0 0) (.slice A4 o4.length c4) [] [] [] o4 by
       refine ⟨by rw [hW3, hg]; exact Go.heap_alloc_new wc _, HGB.out, Kd.R_nil _ _ _ _ _, Kd.R_nil _ _ _ _ _, Kd.R_nil _ _ _ _ _, Kd.S_below (Kd.S_mono (Kd.S_bound HS4.out) (fun k hk => by rw [hg]; exact hk.2.2.1)) HBA.out⟩)
      have HBL3 := Aside0.mk (show Below w.heap.size w W3 from Below.trans HBL.out (Below.mono HBA.out (Below.size HBL.out)))
      clear hW3 hg HBA HBL HS4 m0 m2_ m3_ m4_
      go_wp2
      go_loopg [0, 8] 3 (fun gg t0 t8 wr => ∃ (J : Int) (l' : List ByteArray) (A' : Option Addr) (c' m' : Nat) (a0 a1 a2 : Value) (x0 x1 x2 : List ByteArray), t0 = .slice A' m' c' ∧ t8 = .int .i64 J ∧ 0 ≤ J ∧ J + (gg : Int) = 3 ∧ Aside0 (rrS k gg J x0 x1 x2 l' = some R3) ∧ Aside0 (m' = l'.length ∧ l'.length ≤ c' ∧ Kd.C Kd.string w A' l'.length l') ∧ Aside0 (l'.length ≤ 400) ∧ Aside0 (RS.St wr g w.heap.size a0 a1 a2 (.slice A4 o4.length c4) x0 x1 x2 o4) ∧ Aside0 (Below w.heap.size w wr))
      case atStart => exact ⟨0, l1, A1, c' - un, m1, (.slice none 0 0), (.slice none 0 0), (.slice none 0 0), [], [], [], rfl, rfl, by omega, by omega, HR3, ⟨HM1.out, HE1.out, HD1.out⟩, HLE1, HST, HBL3⟩
      case round =>
      clear HST HBL3 HR3 HD1 HE1 HM1 HLE1
      obtain ⟨J, l', A', c', m', a0, a1, a2, x0, x1, x2, rfl, rfl, hJ0, hJ3, HRS, HM, HLE, HST, HBJ⟩ := hrel
      have hJ : J = 0 ∨ J = 1 ∨ J = 2 ∨ J = 3 := by omega
      rcases hJ with rfl | rfl | rfl | rfl
      ·obtain rfl : gk = 2 + 1 := by omega
       have h := HRS.out
       unfold rrS at h
       replace h := Option.bind_eq_some_iff.1 h
       obtain ⟨a, ha, h⟩ := h
       have HFA := Aside0.mk (show a = none → r1 = [] ∧ r2 = 12 from fun hn => HF3.out (by rw [hn] at h; exact (Option.some.inj h).symm))
       have HA := Aside0.mk h
       clear h HRS
       cases l' with
       | nil =>
        obtain ⟨rfl, rfl⟩ := HFA.out (by have h_ := Option.some.inj ha; exact h_.symm)
        have hm0 : m' = 0 := HM.out.1
        subst hm0
        clear ha
        go_wp2
        go_ret2
        exact ⟨_, rfl, Kd.S_nil _ _ _ _ _, HBJ.out⟩
       | cons s t =>
        replace ha := Option.bind_eq_some_iff.1 ha
        obtain ⟨m, hm, ha⟩ := ha
        have HMK := Aside0.mk hm
        have hml : m' = t.length + 1 := HM.out.1
        have HML := Aside0.mk hml
        obtain ⟨ad, rfl, hcell⟩ := Kd.at_string (Kd.C_below HM.out.2.2 HBJ.out) 0 (by omega) (by simp)
        rw [show rdOf ByteArray.empty (s :: t) 0 = s from rfl, show (0 : Int).toNat = 0 from rfl, Addr.add_zero'] at hcell
        have m0 : ((m' : Int) == 0) = false := beq_eq_false_iff_ne.2 (by omega)
        have m1 : decide ((m' : Int) = 0) = false := decide_eq_false (by omega)
        have m2 : (m' == 0) = false := beq_eq_false_iff_ne.2 (by omega)
        have m3 : (m' = 0) = False := eq_false (by omega)
        have m4 : (0 < m') = True := eq_true (by omega)
        have m5 : decide (0 < m') = true := decide_eq_true (by omega)
        have m6 : decide ((0 : Int) < (m' : Int)) = true := decide_eq_true (by omega)
        by_cases hmj : m = 0
        ·rw [if_pos hmj] at ha
         replace ha := Option.bind_eq_some_iff.1 ha
         obtain ⟨⟨x9, u9⟩, hun, ha⟩ := ha
         by_cases hg : uok (x9, u9) t.length = true
         case neg => rw [if_neg hg] at ha; cases ha
         rw [if_pos hg] at ha
         obtain ⟨vn, hvn, hvl, hxl⟩ := uok_nat hg
         have hu9 : u9 = (vn : Int) := hvn
         subst hu9
         dsimp only at ha hvl hxl
         rw [Int.toNat_natCast] at ha
         have HVN := Aside0.mk hun
         have HAE := Aside0.mk (show rrS k 2 1 x9 x1 x2 (t.drop vn) = some R3 by
          have h_ := HA.out
          rw [← Option.some.inj ha] at h_
          exact h_)
         obtain ⟨B1, hs1, hD1, hd1⟩ := str_from (some ad) c' (s :: t) 1 (by simp) HM.out.2.1
         obtain ⟨B2, hs2, hD2, hd2⟩ := str_from (some ad) c' (s :: t) (1 + vn) (by rw [List.length_cons]; omega) HM.out.2.1
         have hdr : List.drop (1 + vn) (s :: t) = t.drop vn := by rw [Nat.add_comm]; rfl
         rw [hdr] at hs2 hD2 hd2
         rw [show List.drop 1 (s :: t) = t from rfl] at hs1 hD1 hd1
         rw [show (s :: t).length = m' from hml.symm] at hs1 hs2
         rw [show ((1 + vn : Nat) : Int) = 1 + (vn : Int) by omega] at hs2
         rw [show ((1 : Nat) : Int) = 1 from rfl] at hs1
         have HD1 := Aside0.mk (hD1 w HM.out.2.2)
         have HD2 := Aside0.mk (hD2 w HM.out.2.2)
         have HE1 := Aside0.mk hd1
         have HE2 := Aside0.mk hd2
         obtain ⟨l9, hl9⟩ : ∃ l9, l9 = t.drop vn := ⟨_, rfl⟩
         obtain ⟨m9, hm9⟩ : ∃ m9, m9 = l9.length := ⟨_, rfl⟩
         rw [← hl9, ← hm9] at hs2
         have HL9 := Aside0.mk hl9
         have HM9 := Aside0.mk hm9
         have HVL := Aside0.mk (show vn ≤ 400 ∧ l9.length ≤ 400 by have h2_ := HLE.out; rw [List.length_cons] at h2_; rw [hl9, List.length_drop]; omega)
         have vb : (vn : Int) ≤ 400 := by have h_ := HVL.out.1; omega
         subst hmj
         clear ha hun hg hvn hvl hxl HA HFA hd1 hd2 hD1 hD2 hdr hl9 hm9 hml hm
         go_wp2_with (first | (go_at_call 26; (with_reducible refine (sidingref19_Mark.calls s 0 _ HMK.out).mono ?_); rintro e_ w' ⟨rfl, ⟨nd, rfl⟩⟩) | (go_at_call 37; (with_reducible refine (sidingref19_until.calls k B1 (c' - 1) t x9 (vn : Int) _ (Kd.C_drewN (Kd.C_below HD1.out HBJ.out) _) HE1.out HVN.out).mono ?_); rintro e_ w9 ⟨v9, rfl, hr9, hb9⟩; obtain ⟨A9, c9, rfl⟩ := Kd.R_slice hr9; have HSA := Aside0.mk (RS.keep (RS.keep HST.out (pw_below_drewN (Below.refl _ _) nd)) hb9); have HN9 := Aside0.mk (RS.new hr9 (show g < (wr.drewN nd).heap.size from blk_lt HST.out.blk)); have HB9 := Aside0.mk (show Below wr.heap.size wr w9 from Below.trans (pw_below_drewN (Below.refl _ _) nd) hb9); have cz := (blk_cell HSA.out.blk 0).trans rfl; have fz := blk_frozen HSA.out.blk 0; clear hr9 hb9))
         obtain ⟨W9, hW9⟩ : ∃ W9, W9 = w9.setCell ⟨g, 0, none⟩ (.slice A9 x9.length c9) := ⟨_, rfl⟩
         rw [← hW9]
         have HST9 := Aside0.mk (show RS.St W9 g w.heap.size (.slice A9 x9.length c9) a1 a2 (.slice A4 o4.length c4) x9 x1 x2 o4 by rw [hW9]; exact RS.set HSA.out 0 rfl HN9.out HSA.out.r1 HSA.out.r2)
         have HBL9 := Aside0.mk (show Below w.heap.size w W9 by rw [hW9]; exact Below.setCell (p := ⟨g, 0, none⟩) (Below.trans HBJ.out (Below.mono HB9.out (Below.size HBJ.out))) HGB.out _)
         clear hW9 cz fz
         go_roundg 2
         case measure => omega
         case rel => exact ⟨1, l9, B2, c' - (1 + vn), m9, (.slice A9 x9.length c9), a1, a2, x9, x1, x2, rfl, rfl, by omega, by omega, ⟨by rw [HL9.out]; exact HAE.out⟩, ⟨HM9.out, by rw [HL9.out]; exact HE2.out, by rw [HL9.out]; exact HD2.out⟩, ⟨HVL.out.2⟩, HST9, HBL9⟩
        ·have hmz : (m == 0) = false := beq_eq_false_iff_ne.2 hmj
         have hmz2 : decide (m = 0) = false := decide_eq_false hmj
         have hmz3 : (m = 0) = False := eq_false hmj
         rw [if_neg hmj] at ha
         obtain ⟨rfl, rfl⟩ := HFA.out (by have h_ := Option.some.inj ha; exact h_.symm)
         clear ha hm hmj hml
         go_wp2_with (first | (go_at_call 26; (with_reducible refine (sidingref19_Mark.calls s m _ HMK.out).mono ?_); rintro e_ w' ⟨rfl, ⟨nd, rfl⟩⟩))
         go_ret2
         exact ⟨_, rfl, Kd.S_nil _ _ _ _ _, pw_below_drewN HBJ.out _⟩
      ·obtain rfl : gk = 1 + 1 := by omega
       have h := HRS.out
       unfold rrS at h
       replace h := Option.bind_eq_some_iff.1 h
       obtain ⟨a, ha, h⟩ := h
       have HFA := Aside0.mk (show a = none → r1 = [] ∧ r2 = 12 from fun hn => HF3.out (by rw [hn] at h; exact (Option.some.inj h).symm))
       have HA := Aside0.mk h
       clear h HRS
       cases l' with
       | nil =>
        obtain ⟨rfl, rfl⟩ := HFA.out (by have h_ := Option.some.inj ha; exact h_.symm)
        have hm0 : m' = 0 := HM.out.1
        subst hm0
        clear ha
        go_wp2
        go_ret2
        exact ⟨_, rfl, Kd.S_nil _ _ _ _ _, HBJ.out⟩
       | cons s t =>
        replace ha := Option.bind_eq_some_iff.1 ha
        obtain ⟨m, hm, ha⟩ := ha
        have HMK := Aside0.mk hm
        have hml : m' = t.length + 1 := HM.out.1
        have HML := Aside0.mk hml
        obtain ⟨ad, rfl, hcell⟩ := Kd.at_string (Kd.C_below HM.out.2.2 HBJ.out) 0 (by omega) (by simp)
        rw [show rdOf ByteArray.empty (s :: t) 0 = s from rfl, show (0 : Int).toNat = 0 from rfl, Addr.add_zero'] at hcell
        have m0 : ((m' : Int) == 0) = false := beq_eq_false_iff_ne.2 (by omega)
        have m1 : decide ((m' : Int) = 0) = false := decide_eq_false (by omega)
        have m2 : (m' == 0) = false := beq_eq_false_iff_ne.2 (by omega)
        have m3 : (m' = 0) = False := eq_false (by omega)
        have m4 : (0 < m') = True := eq_true (by omega)
        have m5 : decide (0 < m') = true := decide_eq_true (by omega)
        have m6 : decide ((0 : Int) < (m' : Int)) = true := decide_eq_true (by omega)
        by_cases hmj : m = 1
        ·rw [if_pos hmj] at ha
         replace ha := Option.bind_eq_some_iff.1 ha
         obtain ⟨⟨x9, u9⟩, hun, ha⟩ := ha
         by_cases hg : uok (x9, u9) t.length = true
         case neg => rw [if_neg hg] at ha; cases ha
         rw [if_pos hg] at ha
         obtain ⟨vn, hvn, hvl, hxl⟩ := uok_nat hg
         have hu9 : u9 = (vn : Int) := hvn
         subst hu9
         dsimp only at ha hvl hxl
         rw [Int.toNat_natCast] at ha
         have HVN := Aside0.mk hun
         have HAE := Aside0.mk (show rrS k 1 2 x0 x9 x2 (t.drop vn) = some R3 by
          have h_ := HA.out
          rw [← Option.some.inj ha] at h_
          exact h_)
         obtain ⟨B1, hs1, hD1, hd1⟩ := str_from (some ad) c' (s :: t) 1 (by simp) HM.out.2.1
         obtain ⟨B2, hs2, hD2, hd2⟩ := str_from (some ad) c' (s :: t) (1 + vn) (by rw [List.length_cons]; omega) HM.out.2.1
         have hdr : List.drop (1 + vn) (s :: t) = t.drop vn := by rw [Nat.add_comm]; rfl
         rw [hdr] at hs2 hD2 hd2
         rw [show List.drop 1 (s :: t) = t from rfl] at hs1 hD1 hd1
         rw [show (s :: t).length = m' from hml.symm] at hs1 hs2
         rw [show ((1 + vn : Nat) : Int) = 1 + (vn : Int) by omega] at hs2
         rw [show ((1 : Nat) : Int) = 1 from rfl] at hs1
         have HD1 := Aside0.mk (hD1 w HM.out.2.2)
         have HD2 := Aside0.mk (hD2 w HM.out.2.2)
         have HE1 := Aside0.mk hd1
         have HE2 := Aside0.mk hd2
         obtain ⟨l9, hl9⟩ : ∃ l9, l9 = t.drop vn := ⟨_, rfl⟩
         obtain ⟨m9, hm9⟩ : ∃ m9, m9 = l9.length := ⟨_, rfl⟩
         rw [← hl9, ← hm9] at hs2
         have HL9 := Aside0.mk hl9
         have HM9 := Aside0.mk hm9
         have HVL := Aside0.mk (show vn ≤ 400 ∧ l9.length ≤ 400 by have h2_ := HLE.out; rw [List.length_cons] at h2_; rw [hl9, List.length_drop]; omega)
         have vb : (vn : Int) ≤ 400 := by have h_ := HVL.out.1; omega
         subst hmj
         clear ha hun hg hvn hvl hxl HA HFA hd1 hd2 hD1 hD2 hdr hl9 hm9 hml hm
         go_wp2_with (first | (go_at_call 26; (with_reducible refine (sidingref19_Mark.calls s 1 _ HMK.out).mono ?_); rintro e_ w' ⟨rfl, ⟨nd, rfl⟩⟩) | (go_at_call 37; (with_reducible refine (sidingref19_until.calls k B1 (c' - 1) t x9 (vn : Int) _ (Kd.C_drewN (Kd.C_below HD1.out HBJ.out) _) HE1.out HVN.out).mono ?_); rintro e_ w9 ⟨v9, rfl, hr9, hb9⟩; obtain ⟨A9, c9, rfl⟩ := Kd.R_slice hr9; have HSA := Aside0.mk (RS.keep (RS.keep HST.out (pw_below_drewN (Below.refl _ _) nd)) hb9); have HN9 := Aside0.mk (RS.new hr9 (show g < (wr.drewN nd).heap.size from blk_lt HST.out.blk)); have HB9 := Aside0.mk (show Below wr.heap.size wr w9 from Below.trans (pw_below_drewN (Below.refl _ _) nd) hb9); have cz := (blk_cell HSA.out.blk 1).trans rfl; have fz := blk_frozen HSA.out.blk 1; clear hr9 hb9))
         obtain ⟨W9, hW9⟩ : ∃ W9, W9 = w9.setCell ⟨g, 1, none⟩ (.slice A9 x9.length c9) := ⟨_, rfl⟩
         rw [← hW9]
         have HST9 := Aside0.mk (show RS.St W9 g w.heap.size a0 (.slice A9 x9.length c9) a2 (.slice A4 o4.length c4) x0 x9 x2 o4 by rw [hW9]; exact RS.set HSA.out 1 rfl HSA.out.r0 HN9.out HSA.out.r2)
         have HBL9 := Aside0.mk (show Below w.heap.size w W9 by rw [hW9]; exact Below.setCell (p := ⟨g, 1, none⟩) (Below.trans HBJ.out (Below.mono HB9.out (Below.size HBJ.out))) HGB.out _)
         clear hW9 cz fz
         go_roundg 1
         case measure => omega
         case rel => exact ⟨2, l9, B2, c' - (1 + vn), m9, a0, (.slice A9 x9.length c9), a2, x0, x9, x2, rfl, rfl, by omega, by omega, ⟨by rw [HL9.out]; exact HAE.out⟩, ⟨HM9.out, by rw [HL9.out]; exact HE2.out, by rw [HL9.out]; exact HD2.out⟩, ⟨HVL.out.2⟩, HST9, HBL9⟩
        ·have hmz : (m == 1) = false := beq_eq_false_iff_ne.2 hmj
         have hmz2 : decide (m = 1) = false := decide_eq_false hmj
         have hmz3 : (m = 1) = False := eq_false hmj
         rw [if_neg hmj] at ha
         obtain ⟨rfl, rfl⟩ := HFA.out (by have h_ := Option.some.inj ha; exact h_.symm)
         clear ha hm hmj hml
         go_wp2_with (first | (go_at_call 26; (with_reducible refine (sidingref19_Mark.calls s m _ HMK.out).mono ?_); rintro e_ w' ⟨rfl, ⟨nd, rfl⟩⟩))
         go_ret2
         exact ⟨_, rfl, Kd.S_nil _ _ _ _ _, pw_below_drewN HBJ.out _⟩
      ·obtain rfl : gk = 0 + 1 := by omega
       have h := HRS.out
       unfold rrS at h
       replace h := Option.bind_eq_some_iff.1 h
       obtain ⟨a, ha, h⟩ := h
       have HFA := Aside0.mk (show a = none → r1 = [] ∧ r2 = 12 from fun hn => HF3.out (by rw [hn] at h; exact (Option.some.inj h).symm))
       have HA := Aside0.mk h
       clear h HRS
       cases l' with
       | nil =>
        obtain ⟨rfl, rfl⟩ := HFA.out (by have h_ := Option.some.inj ha; exact h_.symm)
        have hm0 : m' = 0 := HM.out.1
        subst hm0
        clear ha
        go_wp2
        go_ret2
        exact ⟨_, rfl, Kd.S_nil _ _ _ _ _, HBJ.out⟩
       | cons s t =>
        replace ha := Option.bind_eq_some_iff.1 ha
        obtain ⟨m, hm, ha⟩ := ha
        have HMK := Aside0.mk hm
        have hml : m' = t.length + 1 := HM.out.1
        have HML := Aside0.mk hml
        obtain ⟨ad, rfl, hcell⟩ := Kd.at_string (Kd.C_below HM.out.2.2 HBJ.out) 0 (by omega) (by simp)
        rw [show rdOf ByteArray.empty (s :: t) 0 = s from rfl, show (0 : Int).toNat = 0 from rfl, Addr.add_zero'] at hcell
        have m0 : ((m' : Int) == 0) = false := beq_eq_false_iff_ne.2 (by omega)
        have m1 : decide ((m' : Int) = 0) = false := decide_eq_false (by omega)
        have m2 : (m' == 0) = false := beq_eq_false_iff_ne.2 (by omega)
        have m3 : (m' = 0) = False := eq_false (by omega)
        have m4 : (0 < m') = True := eq_true (by omega)
        have m5 : decide (0 < m') = true := decide_eq_true (by omega)
        have m6 : decide ((0 : Int) < (m' : Int)) = true := decide_eq_true (by omega)
        by_cases hmj : m = 2
        ·rw [if_pos hmj] at ha
         replace ha := Option.bind_eq_some_iff.1 ha
         obtain ⟨⟨x9, u9⟩, hun, ha⟩ := ha
         by_cases hg : uok (x9, u9) t.length = true
         case neg => rw [if_neg hg] at ha; cases ha
         rw [if_pos hg] at ha
         obtain ⟨vn, hvn, hvl, hxl⟩ := uok_nat hg
         have hu9 : u9 = (vn : Int) := hvn
         subst hu9
         dsimp only at ha hvl hxl
         rw [Int.toNat_natCast] at ha
         have HVN := Aside0.mk hun
         have HAE := Aside0.mk (show rrS k 0 3 x0 x1 x9 (t.drop vn) = some R3 by
          have h_ := HA.out
          rw [← Option.some.inj ha] at h_
          exact h_)
         obtain ⟨B1, hs1, hD1, hd1⟩ := str_from (some ad) c' (s :: t) 1 (by simp) HM.out.2.1
         obtain ⟨B2, hs2, hD2, hd2⟩ := str_from (some ad) c' (s :: t) (1 + vn) (by rw [List.length_cons]; omega) HM.out.2.1
         have hdr : List.drop (1 + vn) (s :: t) = t.drop vn := by rw [Nat.add_comm]; rfl
         rw [hdr] at hs2 hD2 hd2
         rw [show List.drop 1 (s :: t) = t from rfl] at hs1 hD1 hd1
         rw [show (s :: t).length = m' from hml.symm] at hs1 hs2
         rw [show ((1 + vn : Nat) : Int) = 1 + (vn : Int) by omega] at hs2
         rw [show ((1 : Nat) : Int) = 1 from rfl] at hs1
         have HD1 := Aside0.mk (hD1 w HM.out.2.2)
         have HD2 := Aside0.mk (hD2 w HM.out.2.2)
         have HE1 := Aside0.mk hd1
         have HE2 := Aside0.mk hd2
         obtain ⟨l9, hl9⟩ : ∃ l9, l9 = t.drop vn := ⟨_, rfl⟩
         obtain ⟨m9, hm9⟩ : ∃ m9, m9 = l9.length := ⟨_, rfl⟩
         rw [← hl9, ← hm9] at hs2
         have HL9 := Aside0.mk hl9
         have HM9 := Aside0.mk hm9
         have HVL := Aside0.mk (show vn ≤ 400 ∧ l9.length ≤ 400 by have h2_ := HLE.out; rw [List.length_cons] at h2_; rw [hl9, List.length_drop]; omega)
         have vb : (vn : Int) ≤ 400 := by have h_ := HVL.out.1; omega
         subst hmj
         clear ha hun hg hvn hvl hxl HA HFA hd1 hd2 hD1 hD2 hdr hl9 hm9 hml hm
         go_wp2_with (first | (go_at_call 26; (with_reducible refine (sidingref19_Mark.calls s 2 _ HMK.out).mono ?_); rintro e_ w' ⟨rfl, ⟨nd, rfl⟩⟩) | (go_at_call 37; (with_reducible refine (sidingref19_until.calls k B1 (c' - 1) t x9 (vn : Int) _ (Kd.C_drewN (Kd.C_below HD1.out HBJ.out) _) HE1.out HVN.out).mono ?_); rintro e_ w9 ⟨v9, rfl, hr9, hb9⟩; obtain ⟨A9, c9, rfl⟩ := Kd.R_slice hr9; have HSA := Aside0.mk (RS.keep (RS.keep HST.out (pw_below_drewN (Below.refl _ _) nd)) hb9); have HN9 := Aside0.mk (RS.new hr9 (show g < (wr.drewN nd).heap.size from blk_lt HST.out.blk)); have HB9 := Aside0.mk (show Below wr.heap.size wr w9 from Below.trans (pw_below_drewN (Below.refl _ _) nd) hb9); have cz := (blk_cell HSA.out.blk 2).trans rfl; have fz := blk_frozen HSA.out.blk 2; clear hr9 hb9))
         obtain ⟨W9, hW9⟩ : ∃ W9, W9 = w9.setCell ⟨g, 2, none⟩ (.slice A9 x9.length c9) := ⟨_, rfl⟩
         rw [← hW9]
         have HST9 := Aside0.mk (show RS.St W9 g w.heap.size a0 a1 (.slice A9 x9.length c9) (.slice A4 o4.length c4) x0 x1 x9 o4 by rw [hW9]; exact RS.set HSA.out 2 rfl HSA.out.r0 HSA.out.r1 HN9.out)
         have HBL9 := Aside0.mk (show Below w.heap.size w W9 by rw [hW9]; exact Below.setCell (p := ⟨g, 2, none⟩) (Below.trans HBJ.out (Below.mono HB9.out (Below.size HBJ.out))) HGB.out _)
         clear hW9 cz fz
         go_roundg 0
         case measure => omega
         case rel => exact ⟨3, l9, B2, c' - (1 + vn), m9, a0, a1, (.slice A9 x9.length c9), x0, x1, x9, rfl, rfl, by omega, by omega, ⟨by rw [HL9.out]; exact HAE.out⟩, ⟨HM9.out, by rw [HL9.out]; exact HE2.out, by rw [HL9.out]; exact HD2.out⟩, ⟨HVL.out.2⟩, HST9, HBL9⟩
        ·have hmz : (m == 2) = false := beq_eq_false_iff_ne.2 hmj
         have hmz2 : decide (m = 2) = false := decide_eq_false hmj
         have hmz3 : (m = 2) = False := eq_false hmj
         rw [if_neg hmj] at ha
         obtain ⟨rfl, rfl⟩ := HFA.out (by have h_ := Option.some.inj ha; exact h_.symm)
         clear ha hm hmj hml
         go_wp2_with (first | (go_at_call 26; (with_reducible refine (sidingref19_Mark.calls s m _ HMK.out).mono ?_); rintro e_ w' ⟨rfl, ⟨nd, rfl⟩⟩))
         go_ret2
         exact ⟨_, rfl, Kd.S_nil _ _ _ _ _, pw_below_drewN HBJ.out _⟩
      ·obtain rfl : gk = 0 := by omega
       have h3 : R3 = some ((x0, x1, x2), l') := by
        have h_ := HRS.out
        unfold rrS at h_
        exact (Option.some.inj h_).symm
       subst h3
       have h := HRB.out
       unfold rrM at h
       dsimp only at h
       clear HRS HRB
       cases l' with
       | nil =>
        obtain ⟨rfl, rfl⟩ := HFB.out (by have h_ := Option.some.inj h; exact h_.symm)
        have hm0 : m' = 0 := HM.out.1
        subst hm0
        clear h
        go_wp2
        go_ret2
        exact ⟨_, rfl, Kd.S_nil _ _ _ _ _, HBJ.out⟩
       | cons s t =>
        dsimp only at h
        replace h := Option.bind_eq_some_iff.1 h
        obtain ⟨m, hm, h⟩ := h
        have HMK := Aside0.mk hm
        have hml : m' = t.length + 1 := HM.out.1
        obtain ⟨ad, rfl, hcell⟩ := Kd.at_string (Kd.C_below HM.out.2.2 HBJ.out) 0 (by omega) (by simp)
        rw [show rdOf ByteArray.empty (s :: t) 0 = s from rfl, show (0 : Int).toNat = 0 from rfl, Addr.add_zero'] at hcell
        have m0 : ((m' : Int) == 0) = false := beq_eq_false_iff_ne.2 (by omega)
        have m1 : decide ((m' : Int) = 0) = false := decide_eq_false (by omega)
        have m2 : (m' == 0) = false := beq_eq_false_iff_ne.2 (by omega)
        have m3 : (m' = 0) = False := eq_false (by omega)
        have m4 : (0 < m') = True := eq_true (by omega)
        have m5 : decide (0 < m') = true := decide_eq_true (by omega)
        have m6 : decide ((0 : Int) < (m' : Int)) = true := decide_eq_true (by omega)
        by_cases hmj : m = 3
        ·rw [if_pos hmj] at h
         have hrb := Option.some.inj h
         subst hrb
         have hn := HRN.out
         dsimp only at hn
         obtain ⟨B1, hs1, hD1, hd1⟩ := str_from (some ad) c' (s :: t) 1 (by simp) HM.out.2.1
         rw [show List.drop 1 (s :: t) = t from rfl] at hs1 hD1 hd1
         rw [show (s :: t).length = m' from hml.symm, show ((1 : Nat) : Int) = 1 from rfl] at hs1
         have HD1 := Aside0.mk (hD1 w HM.out.2.2)
         have HE1 := Aside0.mk hd1
         have HT4 := Aside0.mk (show t.length ≤ 400 by have h2_ := HLE.out; rw [List.length_cons] at h2_; omega)
         obtain ⟨o9, ho9⟩ : ∃ o9, o9 = o4 ++ [(⟨5, x1, x0, x2⟩ : S43)] := ⟨_, rfl⟩
         rw [← ho9] at hn
         have HNX := Aside0.mk hn
         have HO9 := Aside0.mk ho9
         subst hmj
         clear h hn hd1 hD1 hml hm ho9
         obtain ⟨P0, q0, rfl⟩ := Kd.R_slice HST.out.r0
         obtain ⟨P1, q1, rfl⟩ := Kd.R_slice HST.out.r1
         obtain ⟨P2, q2, rfl⟩ := Kd.R_slice HST.out.r2
         have hc0 := (blk_cell HST.out.blk 0).trans rfl
         have hc1 := (blk_cell HST.out.blk 1).trans rfl
         have hc2 := (blk_cell HST.out.blk 2).trans rfl
         go_wp2_with (first | (go_at_call 26; (with_reducible refine (sidingref19_Mark.calls s 3 _ HMK.out).mono ?_); rintro e_ w' ⟨rfl, ⟨nd, rfl⟩⟩; have HSD := Aside0.mk (RS.keep HST.out (pw_below_drewN (Below.refl _ _) nd))) | ((with_reducible refine gate_builtin (b := .append) (xs := #[.tmp 78, .tmp 86]) rfl ?_); at_builtin; refine Kd.S_append k43 (w0 := wr.drewN nd) w.heap.size rfl (.tmp 78) (.tmp 86) 22 43 (.agg #[.int .u8 0, .slice none 0 0, .slice none 0 0, .slice none 0 0]) 80 rfl Tryd.underlying22 info43 rfl (by decide) (by omega) (.slice A4 o4.length c4) o4 ⟨5, x1, x0, x2⟩ [.int .u8 5, .slice P1 x1.length q1, .slice P0 x0.length q0, .slice P2 x2.length q2] (fun _ => True) (fun k => g < k) rfl rfl (k43_mkM _ _ _ ⟨5, x1, x0, x2⟩ (Kd.R_lower HSD.out.r1 (by have h_ := HGB.out; omega)) (Kd.R_lower HSD.out.r0 (by have h_ := HGB.out; omega)) (Kd.R_lower HSD.out.r2 (by have h_ := HGB.out; omega))) (fun k hk => ⟨trivial, fun he => by have h_ := MR.sown HSD.out.ro k he.symm; omega⟩) (fun _ _ => trivial) (Kd.S_mono HSD.out.ro (fun k hk => ⟨trivial, by omega⟩)) (Below.refl _ _) (by have h_ := HGB.out; have h2_ := blk_lt HSD.out.blk; omega) (by have h_ := HO4L.out; omega) ?_; intro v9 w5 hs9 hb9 hg9 hat9; rw [← HO9.out] at hs9; obtain ⟨A9, c9, rfl⟩ := Kd.S_slice hs9; have HS5 := Aside0.mk hs9; have HB5 := Aside0.mk hb9; clear hs9 hb9 hg9 hat9))
         go_roundg n
         case measure => omega
         case rel => exact ⟨t, B1, c' - 1, o9, rfl, HNX, ⟨HE1.out, HT4.out, HD1.out⟩, HS5, ⟨Below.trans HBJ.out (Below.trans (pw_below_drewN (Below.refl _ _) nd) HB5.out)⟩⟩
        ·have hmz : (m == 3) = false := beq_eq_false_iff_ne.2 hmj
         have hmz2 : decide (m = 3) = false := decide_eq_false hmj
         have hmz3 : (m = 3) = False := eq_false hmj
         rw [if_neg hmj] at h
         obtain ⟨rfl, rfl⟩ := HFB.out (by have h_ := Option.some.inj h; exact h_.symm)
         clear h hm hmj hml
         go_wp2_with (first | (go_at_call 26; (with_reducible refine (sidingref19_Mark.calls s m _ HMK.out).mono ?_); rintro e_ w' ⟨rfl, ⟨nd, rfl⟩⟩))
         go_ret2
         exact ⟨_, rfl, Kd.S_nil _ _ _ _ _, pw_below_drewN HBJ.out _⟩
end Go.Proofs.YtpklfaglenkdaaaDoor.Pr
end
