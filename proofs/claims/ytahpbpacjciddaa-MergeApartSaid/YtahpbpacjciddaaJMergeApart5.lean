/- Part 5 of the proof of MergeApart: texts put together. -/
import Derived.Test.YtahpbpacjciddaaJMergeApart4
import Derived.Shelf.Strings.Builder1
import Derived.Shelf.Strings.Builder2
import Derived.Shelf.Strings.OnBuilder
import Derived.Shelf.Small.Strs
import Derived.Shelf.Strings.Search1
import Derived.Shelf.Bits.Mul64
import Derived.Shelf.Slices.Equal
import Derived.Ground.Names2Prog
import Derived.Shelf.Slices.Clone
import Derived.Shelf.Slices.Empties2
import Derived.Test.YtahpbpacjciddaaProg
import Derived.Laws.CopyOwn
import Derived.Lib.Join
set_option linter.unusedVariables false
set_option linter.unusedSimpArgs false
section
namespace Go.Proofs.Ytahpbpacjciddaa.Pr
open Go.RowKit Go.Proofs.YtahpbpacjciddaaW.PrintWords Go.Proofs.YtahpbpacjciddaaW.PrintLast Go.Proofs.YtahpbpacjciddaaW.PrintMore
def segL (l : List ByteArray) (a t : Nat) : List ByteArray := (l.take t).drop a
def mkPiece (b o t : List ByteArray) : S34 := ⟨kindB b o t, b, o, t⟩
def cutAt (l0 l1 l2 : List ByteArray) (a t : Nat × Nat × Nat) (out : List S34) : Option (List S34) :=
  if t = a then some out else if a.1 ≤ t.1 ∧ t.1 ≤ l0.length ∧ a.2.1 ≤ t.2.1 ∧ t.2.1 ≤ l1.length ∧ a.2.2 ≤ t.2.2 ∧ t.2.2 ≤ l2.length then
    some (out ++ [mkPiece (segL l0 a.1 t.1) (segL l1 a.2.1 t.2.1) (segL l2 a.2.2 t.2.2)]) else none
theorem S_setElder {α : Type} {d : Kd α} {e b : Nat} {W : World} {ok : Nat → Prop} {v : Value} {xs : List α} (h : Kd.S d e W b ok v xs) {p : Addr} (hp : p.block < b) (u : Value) : Kd.S d e (W.setCell p u) b ok v xs :=
  Kd.S_mono (Kd.S_far (Kd.S_bound h) (fun k hk he => by have := hk.2.1; omega) u) (fun k hk => hk.1)
theorem cut_rowM {w1 : World} {b n : Nat} {v : Value} {l : List ByteArray} (h : Kd.R Kd.string 9 w1 n (fun _ => True) v l) (hb : b ≤ n) : Kd.R Kd.string 9 w1 b (fun k => n ≤ k) v l :=
  Kd.R_lower (Kd.R_mono (Kd.R_bound h) (fun k hk => hk.2.1)) hb
def Cut.St (W : World) (gO : Nat) (a : Nat × Nat × Nat) (out : List S34) : Prop := ∃ vO : Value, W.heap[gO]? = some (.cells #[vO] 24 (0, 0)) ∧
  W.heap[gO + 1]? = some (.cells #[.int .i64 (a.1 : Int), .int .i64 (a.2.1 : Int), .int .i64 (a.2.2 : Int)] 54 (0, 0)) ∧ Kd.S k34 34 W (gO + 2) (fun _ => True) vO out ∧ gO + 2 ≤ W.heap.size
def Cut.Post (W W' : World) (gO : Nat) (t : Nat × Nat × Nat) (out : List S34) : Prop := Cut.St W' gO t out ∧ Below gO W W'
theorem cut_tail {X : World} {gO t0 t1 t2 : Nat} {v x y z : Value} {out : List S34} (hO : X.heap[gO]? = some (.cells #[v] 24 (0, 0))) (hA : X.heap[gO + 1]? = some (.cells #[x, y, z] 54 (0, 0))) (hS : Kd.S k34 34 X (gO + 2) (fun _ => True) v out) (hsz : gO + 2 ≤ X.heap.size) :
    Cut.St (((X.setCell ⟨gO + 1, 0, none⟩ (.int .i64 (t0 : Int))).setCell ⟨gO + 1, 1, none⟩ (.int .i64 (t1 : Int))).setCell ⟨gO + 1, 2, none⟩ (.int .i64 (t2 : Int))) gO (t0, t1, t2) out ∧
      Below gO X (((X.setCell ⟨gO + 1, 0, none⟩ (.int .i64 (t0 : Int))).setCell ⟨gO + 1, 1, none⟩ (.int .i64 (t1 : Int))).setCell ⟨gO + 1, 2, none⟩ (.int .i64 (t2 : Int))) := by
  have hb : Below gO X (((X.setCell ⟨gO + 1, 0, none⟩ (.int .i64 (t0 : Int))).setCell ⟨gO + 1, 1, none⟩ (.int .i64 (t1 : Int))).setCell ⟨gO + 1, 2, none⟩ (.int .i64 (t2 : Int))) :=
    (((Below.refl gO X).setCell (p := ⟨gO + 1, 0, none⟩) (Nat.le_succ _) _).setCell (p := ⟨gO + 1, 1, none⟩) (Nat.le_succ _) _).setCell (p := ⟨gO + 1, 2, none⟩) (Nat.le_succ _) _
  refine ⟨⟨v, ?_, three_set hA, S_setElder (S_setElder (S_setElder hS (Nat.lt_succ_self _) _) (Nat.lt_succ_self _) _) (Nat.lt_succ_self _) _, Nat.le_trans hsz (Below.size hb)⟩, hb⟩
  rw [set_other (by omega), set_other (by omega), set_other (by omega)]
  exact hO
set_option maxHeartbeats 8000000 in
set_option maxRecDepth 100000 in
theorem cut.calls (gO gB gU gT : Nat) (W : World) (A0 : Option Addr) (c0 : Nat) (l0 : List ByteArray) (A1 : Option Addr) (c1 : Nat) (l1 : List ByteArray) (A2 : Option Addr) (c2 : Nat) (l2 : List ByteArray)
  (hr0 : Kd.C Kd.string W A0 l0.length l0) (hc0 : l0.length ≤ c0) (hr1 : Kd.C Kd.string W A1 l1.length l1) (hc1 : l1.length ≤ c1) (hr2 : Kd.C Kd.string W A2 l2.length l2) (hc2 : l2.length ≤ c2)
  (hb0 : l0.length ≤ 1000000) (hb1 : l1.length ≤ 1000000) (hb2 : l2.length ≤ 1000000) (hB : W.cell? ⟨gB, 0, none⟩ = some (.slice A0 l0.length c0)) (hU : W.cell? ⟨gU, 0, none⟩ = some (.slice A1 l1.length c1)) (hT : W.cell? ⟨gT, 0, none⟩ = some (.slice A2 l2.length c2))
  (lB : gB < gO) (lU : gU < gO) (lT : gT < gO) (a0 a1 a2 t0 t1 t2 : Nat) (hq0 : t0 ≤ 3000000) (hq1 : t1 ≤ 3000000) (hq2 : t2 ≤ 3000000) (out out' : List S34) (hlen : out.length ≤ 1000000) (hSt : Cut.St W gO (a0, a1, a2) out) (h : cutAt l0 l1 l2 (a0, a1, a2) (t0, t1, t2) out = some out') :
  Calls Try.prog 27 #[.agg #[.int .i64 (t0 : Int), .int .i64 (t1 : Int), .int .i64 (t2 : Int)], .pointer (some ⟨gO + 1, 0, none⟩), .pointer (some ⟨gO, 0, none⟩), .pointer (some ⟨gB, 0, none⟩), .pointer (some ⟨gU, 0, none⟩), .pointer (some ⟨gT, 0, none⟩)] W fun e W' => e = .returned (.tuple #[]) ∧ Cut.Post W W' gO (t0, t1, t2) out' := by
 obtain ⟨vO, hO, hA, hS, hsz⟩ := hSt
 dsimp only at hA
 obtain ⟨AO, cO, rfl⟩ := Kd.S_slice hS
 obtain ⟨gP, hgp⟩ : ∃ gP, gP = W.heap.size := ⟨_, rfl⟩
 have HGP := Aside0.mk hgp
 obtain ⟨W1, hW1⟩ : ∃ W1, W1 = W.alloc (.cells #[.int .i64 (t0 : Int), .int .i64 (t1 : Int), .int .i64 (t2 : Int)] 54) := ⟨_, rfl⟩
 have hbW : Below W.heap.size W W1 := by rw [hW1]; exact (Below.refl _ _).alloc (Nat.le_refl _) _
 have hsW : W1.heap.size = gP + 1 := by rw [hW1, hgp]; simp
 have hP1 : W1.heap[gP]? = some (.cells #[.int .i64 (t0 : Int), .int .i64 (t1 : Int), .int .i64 (t2 : Int)] 54 (0, 0)) := by rw [hW1, hgp]; exact Go.heap_alloc_new W _
 have hA1 : W1.heap[gO + 1]? = some (.cells #[.int .i64 (a0 : Int), .int .i64 (a1 : Int), .int .i64 (a2 : Int)] 54 (0, 0)) := by rw [hbW.block _ (by omega)]; exact hA
 have hO1 : W1.heap[gO]? = some (.cells #[.slice AO out.length cO] 24 (0, 0)) := by rw [hbW.block _ (by omega)]; exact hO
 have hS1 := Kd.S_below hS hbW
 obtain ⟨p0, p1, p2, _, _, _⟩ := three_cells hP1
 obtain ⟨q0, q1, q2, z0, z1, z2⟩ := three_cells hA1
 have HW := Aside0.mk hbW
 have HSW := Aside0.mk hsW
 have HP1 := Aside0.mk hP1
 have HA1 := Aside0.mk hA1
 have HO1 := Aside0.mk hO1
 have HS1' := Aside0.mk hS1
 have HZ := Aside0.mk hsz
 have HEQ : ∀ X, (binOp .neq 54 (.agg #[.int .i64 (t0 : Int), .int .i64 (t1 : Int), .int .i64 (t2 : Int)]) (.agg #[.int .i64 (a0 : Int), .int .i64 (a1 : Int), .int .i64 (a2 : Int)])).run Try.prog X = .ok (.bool (!decide ((t0, t1, t2) = (a0, a1, a2)))) X := fun X => by
  rw [neI3]
  congr 3
  rw [Bool.eq_iff_iff]
  simp only [Bool.and_eq_true, beq_iff_eq, decide_eq_true_eq, Prod.mk.injEq]
  omega
 unfold cutAt at h
 by_cases heq : (t0, t1, t2) = (a0, a1, a2)
 ·rw [if_pos heq] at h
  obtain rfl := Option.some.inj h
  rw [decide_eq_true heq] at HEQ
  have HEQ' := HEQ
  simp only [Bool.not_true] at HEQ'
  clear HEQ h hbW hsW hP1 hA1 hO1 hS1 hsz hr0 hr1 hr2 hB hU hT hO hA hS hgp heq
  go_enter Try.func27, Try.ntmps27
  go_upto_region 1 with fail
  rw [← hW1, ← HGP.out]
  clear hW1
  go_wp2
  go_end0
  have h2 := cut_tail (t0 := t0) (t1 := t1) (t2 := t2) HO1.out HA1.out HS1'.out (by have := HZ.out; have := HSW.out; have := HGP.out; omega)
  exact ⟨rfl, h2.1, Below.trans (Below.mono HW.out (by have := HZ.out; omega)) h2.2⟩
 ·rw [if_neg heq] at h
  split at h
  ·rename_i hin
   obtain rfl := Option.some.inj h
   rw [decide_eq_false heq] at HEQ
   have HEQ' := HEQ
   simp only [Bool.not_false] at HEQ'
   clear HEQ h
   dsimp only at hin
   obtain ⟨i1, i2, i3, i4, i5, i6⟩ := hin
   obtain ⟨B0, hs0, hm0, hd0⟩ := str_mid A0 c0 l0 a0 t0 i1 i2 hc0
   obtain ⟨B1, hs1, hm1, hd1⟩ := str_mid A1 c1 l1 a1 t1 i3 i4 hc1
   obtain ⟨B2, hs2, hm2, hd2⟩ := str_mid A2 c2 l2 a2 t2 i5 i6 hc2
   obtain ⟨s0, e0⟩ : ∃ s, s = segL l0 a0 t0 := ⟨_, rfl⟩
   obtain ⟨s1, e1⟩ : ∃ s, s = segL l1 a1 t1 := ⟨_, rfl⟩
   obtain ⟨s2, e2⟩ : ∃ s, s = segL l2 a2 t2 := ⟨_, rfl⟩
   have n0 : s0.length ≤ 1000000 := by rw [e0]; unfold segL; rw [List.length_drop, List.length_take]; omega
   have n1 : s1.length ≤ 1000000 := by rw [e1]; unfold segL; rw [List.length_drop, List.length_take]; omega
   have n2 : s2.length ≤ 1000000 := by rw [e2]; unfold segL; rw [List.length_drop, List.length_take]; omega
   rw [show (l0.take t0).drop a0 = s0 from e0.symm] at hs0 hm0 hd0
   rw [show (l1.take t1).drop a1 = s1 from e1.symm] at hs1 hm1 hd1
   rw [show (l2.take t2).drop a2 = s2 from e2.symm] at hs2 hm2 hd2
   rw [← e0, ← e1, ← e2]
   clear e0 e1 e2 heq
   obtain ⟨d0, ed0⟩ : ∃ d, d = c0 - a0 := ⟨_, rfl⟩
   obtain ⟨d1, ed1⟩ : ∃ d, d = c1 - a1 := ⟨_, rfl⟩
   obtain ⟨d2, ed2⟩ : ∃ d, d = c2 - a2 := ⟨_, rfl⟩
   rw [← ed0] at hs0 hd0
   rw [← ed1] at hs1 hd1
   rw [← ed2] at hs2 hd2
   clear ed0 ed1 ed2
   obtain ⟨WD, hWD⟩ : ∃ WD, WD = W1.drew := ⟨_, rfl⟩
   have hbD : Below W1.heap.size W1 WD := by rw [hWD]; exact below_drew1 (Below.refl _ _)
   have hsD : WD.heap.size = gP + 1 := by rw [hWD]; exact hsW
   have hPD : WD.heap[gP]? = some (.cells #[.int .i64 (t0 : Int), .int .i64 (t1 : Int), .int .i64 (t2 : Int)] 54 (0, 0)) := by rw [hWD]; exact hP1
   have hAD : WD.heap[gO + 1]? = some (.cells #[.int .i64 (a0 : Int), .int .i64 (a1 : Int), .int .i64 (a2 : Int)] 54 (0, 0)) := by rw [hWD]; exact hA1
   have hOD : WD.heap[gO]? = some (.cells #[.slice AO out.length cO] 24 (0, 0)) := by rw [hWD]; exact hO1
   have hbWD : Below W.heap.size W WD := Below.trans hbW (Below.mono hbD (by omega))
   have HSO := Aside0.mk (Kd.S_below hS hbWD)
   have hgO : gO < WD.heap.size := by omega
   obtain ⟨pp0, pp1, pp2, _, _, _⟩ := three_cells hPD
   obtain ⟨qq0, qq1, qq2, _, _, _⟩ := three_cells hAD
   have C0 := Aside0.mk (cell_of_one hOD)
   have C1 := Aside0.mk (pc_keep hbWD (by omega) hB)
   have C2 := Aside0.mk qq0
   have C3 := Aside0.mk pp0
   have C4 := Aside0.mk (pc_keep hbWD (by omega) hU)
   have C5 := Aside0.mk qq1
   have C6 := Aside0.mk pp1
   have C7 := Aside0.mk (pc_keep hbWD (by omega) hT)
   have C8 := Aside0.mk qq2
   have C9 := Aside0.mk pp2
   have LO := Aside0.mk hgO
   have LA := Aside0.mk (show gO + 1 < WD.heap.size by omega)
   have LB := Aside0.mk (show gB < WD.heap.size by omega)
   have LU := Aside0.mk (show gU < WD.heap.size by omega)
   have LT := Aside0.mk (show gT < WD.heap.size by omega)
   have LP := Aside0.mk (show gP < WD.heap.size by omega)
   have HPC := Aside0.mk (merge_piece.calls B0 d0 s0 B1 d1 s1 B2 d2 s2 WD (hm0 WD (Kd.C_below hr0 hbWD)) hd0 (hm1 WD (Kd.C_below hr1 hbWD)) hd1 (hm2 WD (Kd.C_below hr2 hbWD)) hd2 (by omega) (by omega) (by omega))
   have HSZ := Aside0.mk (show gO + 2 ≤ WD.heap.size by omega)
   have HBO := Aside0.mk (Below.refl (gO + 2) WD)
   have HLN := Aside0.mk (show (out.length + 1) * 80 ≤ 140737488355328 by omega)
   have HSTO := Aside0.mk (show ∀ w1 w5 : World, Below WD.heap.size WD w1 → w1.grownBy w5 (Value.slice AO out.length cO).ownBlock → w5.cell? ⟨gO, 0, none⟩ = some (.slice AO out.length cO) ∧ w5.frozen? ⟨gO, 0, none⟩ = false from fun w1 w5 h1 h2 => by
    have hne : (some gO : Option Nat) ≠ (Value.slice AO out.length cO).ownBlock := fun he => by have := Kd.S_base HSO.out gO he.symm; omega
    have hb5 : w5.heap[gO]? = some (.cells #[.slice AO out.length cO] 24 (0, 0)) := by
     rw [h2.block gO (Nat.lt_of_lt_of_le hgO (Below.size h1)) hne, h1.block gO hgO]
     exact hOD
    exact ⟨cell_of_one hb5, free_of_one hb5⟩)
   have HBK := Aside0.mk (show ∀ w1 w5 : World, Below WD.heap.size WD w1 → w1.grownBy w5 (Value.slice AO out.length cO).ownBlock → w5.heap[gO]? = WD.heap[gO]? ∧ w5.heap[gO + 1]? = WD.heap[gO + 1]? ∧ w5.heap[gP]? = WD.heap[gP]? ∧ Below gO WD w5 from fun w1 w5 h1 h2 => by
    have hk : ∀ k, k < WD.heap.size → (some k : Option Nat) ≠ (Value.slice AO out.length cO).ownBlock → w5.heap[k]? = WD.heap[k]? := fun k hk hne => by
     rw [h2.block k (Nat.lt_of_lt_of_le hk (Below.size h1)) hne, h1.block k hk]
    have hlt : ∀ k, (some k : Option Nat) = (Value.slice AO out.length cO).ownBlock → gO + 2 ≤ k ∧ k < W.heap.size := fun k he => ⟨Kd.S_base hS k he.symm, Kd.S_lt hS k he.symm⟩
    refine ⟨hk _ (by omega) (fun he => by have := hlt _ he; omega), hk _ (by omega) (fun he => by have := hlt _ he; omega), hk _ (by omega) (fun he => by have := hlt _ he; omega), ?_⟩
    exact (Below.mono h1 (by omega)).grown h2 (by have := Below.size h1; omega) (fun k he => by have := hlt k he.symm; omega))
   have HWD := Aside0.mk hbWD
   have HPD := Aside0.mk hPD
   have HAD := Aside0.mk hAD
   have HOD := Aside0.mk hOD
   have j0 : (0 : Int) ≤ (a0 : Int) := by omega
   have j1 : (0 : Int) ≤ (a1 : Int) := by omega
   have j2 : (0 : Int) ≤ (a2 : Int) := by omega
   clear hbW hsW hP1 hA1 hO1 hS1 hsz hr0 hr1 hr2 hB hU hT hO hA hS hgp hm0 hm1 hm2 hd0 hd1 hd2 i1 i2 i3 i4 i5 i6 hbD hsD hPD hAD hOD hbWD hgO pp0 pp1 pp2 qq0 qq1 qq2 n0 n1 n2
   go_enter Try.func27, Try.ntmps27
   go_upto_region 1 with fail
   rw [← hW1, ← HGP.out]
   clear hW1
   go_upto_region 2 with fail
   clear p0 p1 p2 q0 q1 q2 z0 z1 z2 HEQ'
   subst hWD
   refine start_ (n := 24) (S := fun w' => w'.cell? ⟨gO, 0, none⟩ = some (.slice AO out.length cO) ∧ w'.cell? ⟨gB, 0, none⟩ = some (.slice A0 l0.length c0) ∧ w'.cell? ⟨gO + 1, 0, none⟩ = some (.int .i64 (a0 : Int)) ∧ w'.cell? ⟨gP, 0, none⟩ = some (.int .i64 (t0 : Int)) ∧ w'.cell? ⟨gU, 0, none⟩ = some (.slice A1 l1.length c1) ∧ w'.cell? ⟨gO + 1, 1, none⟩ = some (.int .i64 (a1 : Int)) ∧ w'.cell? ⟨gP, 1, none⟩ = some (.int .i64 (t1 : Int)) ∧ w'.cell? ⟨gT, 0, none⟩ = some (.slice A2 l2.length c2) ∧ w'.cell? ⟨gO + 1, 2, none⟩ = some (.int .i64 (a2 : Int)) ∧ w'.cell? ⟨gP, 2, none⟩ = some (.int .i64 (t2 : Int))) (ds := [22, 23]) #[false, false, false, false, false, false, false, false, false, false, false, false, false, false, false, false, false, false, false, false, false, false, false, false] (by kernel_rfl) rfl rfl ⟨C0.out, C1.out, C2.out, C3.out, C4.out, C5.out, C6.out, C7.out, C8.out, C9.out⟩ (fun hHeld => ?_)
   refine pure_ (i := 2) (N := some 12) (v := ?_) (a' := ?_) #[false, false, true, false, false, false, false, false, false, false, false, false, false, false, false, false, false, false, false, false, false, false, false, false] rfl rfl (by kernel_rfl) (fun _ _ _ h => h) (Or.inl ⟨by rfl, ?_⟩) ?_ ?_; rotate_left; (focus intro w'; go_simp; with_reducible rfl); rotate_left; (focus go_simp; rfl)
   refine pure_ (i := 4) (N := some 14) (v := ?_) (a' := ?_) #[false, false, true, false, true, false, false, false, false, false, false, false, false, false, false, false, false, false, false, false, false, false, false, false] rfl rfl (by kernel_rfl) (fun _ _ _ h => h) (Or.inl ⟨by rfl, ?_⟩) ?_ ?_; rotate_left; (focus intro w'; go_simp; with_reducible rfl); rotate_left; (focus go_simp; rfl)
   refine pure_ (i := 8) (N := some 18) (v := ?_) (a' := ?_) #[false, false, true, false, true, false, false, false, true, false, false, false, false, false, false, false, false, false, false, false, false, false, false, false] rfl rfl (by kernel_rfl) (fun _ _ _ h => h) (Or.inl ⟨by rfl, ?_⟩) ?_ ?_; rotate_left; (focus intro w'; go_simp; with_reducible rfl); rotate_left; (focus go_simp; rfl)
   refine pure_ (i := 10) (N := some 20) (v := ?_) (a' := ?_) #[false, false, true, false, true, false, false, false, true, false, true, false, false, false, false, false, false, false, false, false, false, false, false, false] rfl rfl (by kernel_rfl) (fun _ _ _ h => h) (Or.inl ⟨by rfl, ?_⟩) ?_ ?_; rotate_left; (focus intro w'; go_simp; with_reducible rfl); rotate_left; (focus go_simp; rfl)
   refine pure_ (i := 14) (N := some 24) (v := ?_) (a' := ?_) #[false, false, true, false, true, false, false, false, true, false, true, false, false, false, true, false, false, false, false, false, false, false, false, false] rfl rfl (by kernel_rfl) (fun _ _ _ h => h) (Or.inl ⟨by rfl, ?_⟩) ?_ ?_; rotate_left; (focus intro w'; go_simp; with_reducible rfl); rotate_left; (focus go_simp; rfl)
   refine pure_ (i := 16) (N := some 26) (v := ?_) (a' := ?_) #[false, false, true, false, true, false, false, false, true, false, true, false, false, false, true, false, true, false, false, false, false, false, false, false] rfl rfl (by kernel_rfl) (fun _ _ _ h => h) (Or.inl ⟨by rfl, ?_⟩) ?_ ?_; rotate_left; (focus intro w'; go_simp; with_reducible rfl); rotate_left; (focus go_simp; rfl)
   refine take_ (i := 0) (N := some 10) (v := ?_) (a' := ?_) #[true, false, true, false, true, false, false, false, true, false, true, false, false, false, true, false, true, false, false, false, false, false, false, false] rfl rfl (by kernel_rfl) (fun _ _ _ h => h) (Or.inl ⟨by rfl, ?_⟩) hHeld ?_ ?_; rotate_left; (focus rintro w' ⟨s0, s1, s2, s3, s4, s5, s6, s7, s8, s9⟩; go_simp; with_reducible rfl); rotate_left; (focus go_simp; rfl)
   refine take_ (i := 1) (N := some 11) (v := ?_) (a' := ?_) #[true, true, true, false, true, false, false, false, true, false, true, false, false, false, true, false, true, false, false, false, false, false, false, false] rfl rfl (by kernel_rfl) (fun _ _ _ h => h) (Or.inl ⟨by rfl, ?_⟩) hHeld ?_ ?_; rotate_left; (focus rintro w' ⟨s0, s1, s2, s3, s4, s5, s6, s7, s8, s9⟩; go_simp; with_reducible rfl); rotate_left; (focus go_simp; rfl)
   refine take_ (i := 3) (N := some 13) (v := ?_) (a' := ?_) #[true, true, true, true, true, false, false, false, true, false, true, false, false, false, true, false, true, false, false, false, false, false, false, false] rfl rfl (by kernel_rfl) (fun _ _ _ h => h) (Or.inl ⟨by rfl, ?_⟩) hHeld ?_ ?_; rotate_left; (focus rintro w' ⟨s0, s1, s2, s3, s4, s5, s6, s7, s8, s9⟩; go_simp; with_reducible rfl); rotate_left; (focus go_simp; rfl)
   refine take_ (i := 5) (N := some 15) (v := ?_) (a' := ?_) #[true, true, true, true, true, true, false, false, true, false, true, false, false, false, true, false, true, false, false, false, false, false, false, false] rfl rfl (by kernel_rfl) (fun _ _ _ h => h) (Or.inl ⟨by rfl, ?_⟩) hHeld ?_ ?_; rotate_left; (focus rintro w' ⟨s0, s1, s2, s3, s4, s5, s6, s7, s8, s9⟩; go_simp; with_reducible rfl); rotate_left; (focus go_simp; rfl)
   refine pure_ (i := 6) (N := some 16) (v := ?_) (a' := ?_) #[true, true, true, true, true, true, true, false, true, false, true, false, false, false, true, false, true, false, false, false, false, false, false, false] rfl rfl (by kernel_rfl) (fun _ _ _ h => h) (Or.inl ⟨by rfl, ?_⟩) ?_ ?_; rotate_left; (focus intro w'; go_simp; with_reducible rfl); rotate_left; (focus go_simp; rfl)
   refine take_ (i := 7) (N := some 17) (v := ?_) (a' := ?_) #[true, true, true, true, true, true, true, true, true, false, true, false, false, false, true, false, true, false, false, false, false, false, false, false] rfl rfl (by kernel_rfl) (fun _ _ _ h => h) (Or.inl ⟨by rfl, ?_⟩) hHeld ?_ ?_; rotate_left; (focus rintro w' ⟨s0, s1, s2, s3, s4, s5, s6, s7, s8, s9⟩; go_simp; with_reducible rfl); rotate_left; (focus go_simp; rfl)
   refine take_ (i := 9) (N := some 19) (v := ?_) (a' := ?_) #[true, true, true, true, true, true, true, true, true, true, true, false, false, false, true, false, true, false, false, false, false, false, false, false] rfl rfl (by kernel_rfl) (fun _ _ _ h => h) (Or.inl ⟨by rfl, ?_⟩) hHeld ?_ ?_; rotate_left; (focus rintro w' ⟨s0, s1, s2, s3, s4, s5, s6, s7, s8, s9⟩; go_simp; with_reducible rfl); rotate_left; (focus go_simp; rfl)
   refine take_ (i := 11) (N := some 21) (v := ?_) (a' := ?_) #[true, true, true, true, true, true, true, true, true, true, true, true, false, false, true, false, true, false, false, false, false, false, false, false] rfl rfl (by kernel_rfl) (fun _ _ _ h => h) (Or.inl ⟨by rfl, ?_⟩) hHeld ?_ ?_; rotate_left; (focus rintro w' ⟨s0, s1, s2, s3, s4, s5, s6, s7, s8, s9⟩; go_simp; with_reducible rfl); rotate_left; (focus go_simp; rfl)
   refine pure_ (i := 12) (N := some 22) (v := ?_) (a' := ?_) #[true, true, true, true, true, true, true, true, true, true, true, true, true, false, true, false, true, false, false, false, false, false, false, false] rfl rfl (by kernel_rfl) (fun _ _ _ h => h) (Or.inl ⟨by rfl, ?_⟩) ?_ ?_; rotate_left; (focus intro w'; go_simp; with_reducible rfl); rotate_left; (focus go_simp; rfl)
   refine take_ (i := 13) (N := some 23) (v := ?_) (a' := ?_) #[true, true, true, true, true, true, true, true, true, true, true, true, true, true, true, false, true, false, false, false, false, false, false, false] rfl rfl (by kernel_rfl) (fun _ _ _ h => h) (Or.inl ⟨by rfl, ?_⟩) hHeld ?_ ?_; rotate_left; (focus rintro w' ⟨s0, s1, s2, s3, s4, s5, s6, s7, s8, s9⟩; go_simp; with_reducible rfl); rotate_left; (focus go_simp; rfl)
   refine take_ (i := 15) (N := some 25) (v := ?_) (a' := ?_) #[true, true, true, true, true, true, true, true, true, true, true, true, true, true, true, true, true, false, false, false, false, false, false, false] rfl rfl (by kernel_rfl) (fun _ _ _ h => h) (Or.inl ⟨by rfl, ?_⟩) hHeld ?_ ?_; rotate_left; (focus rintro w' ⟨s0, s1, s2, s3, s4, s5, s6, s7, s8, s9⟩; go_simp; with_reducible rfl); rotate_left; (focus go_simp; rfl)
   refine take_ (i := 17) (N := some 27) (v := ?_) (a' := ?_) #[true, true, true, true, true, true, true, true, true, true, true, true, true, true, true, true, true, true, false, false, false, false, false, false] rfl rfl (by kernel_rfl) (fun _ _ _ h => h) (Or.inl ⟨by rfl, ?_⟩) hHeld ?_ ?_; rotate_left; (focus rintro w' ⟨s0, s1, s2, s3, s4, s5, s6, s7, s8, s9⟩; go_simp; with_reducible rfl); rotate_left; (focus go_simp; rfl)
   refine pure_ (i := 18) (N := some 28) (v := ?_) (a' := ?_) #[true, true, true, true, true, true, true, true, true, true, true, true, true, true, true, true, true, true, true, false, false, false, false, false] rfl rfl (by kernel_rfl) (fun _ _ _ h => h) (Or.inl ⟨by rfl, ?_⟩) ?_ ?_; rotate_left; (focus intro w'; go_simp; with_reducible rfl); rotate_left; (focus go_simp; rfl)
   refine pure_ (i := 19) (N := some 29) (v := ?_) (a' := ?_) #[true, true, true, true, true, true, true, true, true, true, true, true, true, true, true, true, true, true, true, true, false, false, false, false] rfl rfl (by kernel_rfl) (fun _ _ _ h => h) (Or.inl ⟨by rfl, ?_⟩) ?_ ?_; rotate_left; (focus intro w'; go_simp; with_reducible rfl); rotate_left; (focus go_simp; rfl)
   refine one_ (i := 20) (N := some 30) #[true, true, true, true, true, true, true, true, true, true, true, true, true, true, true, true, true, true, true, true, true, false, false, false] rfl rfl (by kernel_rfl) (by decide) (fun K hK => ?_)
   refine goes_ Try.func28 (by kernel_rfl) rfl #[.agg #[.slice B0 s0.length d0, .slice B1 s1.length d1, .slice B2 s2.length d2]] (by rfl) rfl rfl (by simp only [List.map_toArray, List.map_cons, List.map_nil]; rfl) ?_
   with_reducible refine (HPC.out).mono ?_
   rintro e w1 ⟨v0, v1, v2, rfl, hv0, hv1, hv2, hq1⟩
   refine ⟨_, rfl, ?_⟩
   obtain ⟨E0, f0, rfl⟩ := Kd.R_slice hv0
   obtain ⟨E1, f1, rfl⟩ := Kd.R_slice hv1
   obtain ⟨E2, f2, rfl⟩ := Kd.R_slice hv2
   have V0 := Aside0.mk hv0
   have V1 := Aside0.mk hv1
   have V2 := Aside0.mk hv2
   have HQ1 := Aside0.mk hq1
   have HS1 := Aside0.mk (Kd.S_mono (Kd.S_below (Kd.S_bound HSO.out) hq1) (fun k hk => hk.2.2.1))
   have HB1 := Aside0.mk (Below.trans HBO.out (Below.mono hq1 HSZ.out))
   have HSZ1 := Aside0.mk (Nat.le_trans HSZ.out (Below.size hq1))
   clear hv0 hv1 hv2 hq1
   refine hK.out _ _ ⟨(pc_keep HQ1.out (by exact LO.out) C0.out), (pc_keep HQ1.out (by exact LB.out) C1.out), (pc_keep HQ1.out (by exact LA.out) C2.out), (pc_keep HQ1.out (by exact LP.out) C3.out), (pc_keep HQ1.out (by exact LU.out) C4.out), (pc_keep HQ1.out (by exact LA.out) C5.out), (pc_keep HQ1.out (by exact LP.out) C6.out), (pc_keep HQ1.out (by exact LT.out) C7.out), (pc_keep HQ1.out (by exact LA.out) C8.out), (pc_keep HQ1.out (by exact LP.out) C9.out)⟩ (fun hHeld => ?_)
   clear hK K
   refine norm_ (a' := ?_) ?_ ?_
   rotate_left
   ·show Act.put _ (some 30) _ = _
    simp only [Act.put, List.setIfInBounds_toArray, List.set_cons_zero, List.set_cons_succ, i64_w, i32_w]
    rfl
   refine one_ (i := 21) (N := some 31) #[true, true, true, true, true, true, true, true, true, true, true, true, true, true, true, true, true, true, true, true, true, true, false, false] rfl rfl (by kernel_rfl) (by decide) (fun K hK => ?_)
   refine value_ (w1 := ?_) (v := ?_) (by rfl) rfl ?_ ?_
   rotate_left 2
   ·go_simp
    constructor
    ·rfl
    ·rfl
   refine hK.out _ _ ⟨(pc_keep (Aside0.mk (Below.alloc HQ1.out (Below.size HQ1.out) _)).out (by exact LO.out) C0.out), (pc_keep (Aside0.mk (Below.alloc HQ1.out (Below.size HQ1.out) _)).out (by exact LB.out) C1.out), (pc_keep (Aside0.mk (Below.alloc HQ1.out (Below.size HQ1.out) _)).out (by exact LA.out) C2.out), (pc_keep (Aside0.mk (Below.alloc HQ1.out (Below.size HQ1.out) _)).out (by exact LP.out) C3.out), (pc_keep (Aside0.mk (Below.alloc HQ1.out (Below.size HQ1.out) _)).out (by exact LU.out) C4.out), (pc_keep (Aside0.mk (Below.alloc HQ1.out (Below.size HQ1.out) _)).out (by exact LA.out) C5.out), (pc_keep (Aside0.mk (Below.alloc HQ1.out (Below.size HQ1.out) _)).out (by exact LP.out) C6.out), (pc_keep (Aside0.mk (Below.alloc HQ1.out (Below.size HQ1.out) _)).out (by exact LT.out) C7.out), (pc_keep (Aside0.mk (Below.alloc HQ1.out (Below.size HQ1.out) _)).out (by exact LA.out) C8.out), (pc_keep (Aside0.mk (Below.alloc HQ1.out (Below.size HQ1.out) _)).out (by exact LP.out) C9.out)⟩ (fun hHeld => ?_)
   clear hK K
   refine norm_ (a' := ?_) ?_ ?_
   rotate_left
   ·show Act.put _ (some 31) _ = _
    simp only [Act.put, List.setIfInBounds_toArray, List.set_cons_zero, List.set_cons_succ, i64_w, i32_w]
    rfl
   refine last_ (i := 22) (N := some 32) #[true, true, true, true, true, true, true, true, true, true, true, true, true, true, true, true, true, true, true, true, true, true, true, false] rfl rfl (by kernel_rfl) (by decide) (fun K hK => ?_)
   refine Kd.S_append_step k34 (w0 := W1.drew) (gO + 2) (by rfl) (.tmp 10) (.tmp 31) 24 34 (.agg #[.int .u8 0, .slice none 0 0, .slice none 0 0, .slice none 0 0]) 80 (by rfl) Try.underlying24 info34 rfl (by decide) (by omega) (.slice AO out.length cO) out ⟨kindB s0 s1 s2, s0, s1, s2⟩ [.int .u8 (kindB s0 s1 s2), .slice E0 s0.length f0, .slice E1 s1.length f1, .slice E2 s2.length f2] (fun _ => True) (fun k => W1.drew.heap.size ≤ k) (by rfl) (by rfl) (k34_mkM _ _ _ ⟨kindB s0 s1 s2, s0, s1, s2⟩ (cut_rowM V0.out HSZ.out) (cut_rowM V1.out HSZ.out) (cut_rowM V2.out HSZ.out)) (fun k hk => ⟨trivial, fun he => by have := Kd.S_lt HSO.out k he.symm; omega⟩) (fun _ _ => trivial) (Kd.S_mono HS1.out (fun k hk => ⟨trivial, by omega⟩)) HB1.out HSZ1.out HLN.out ?_
   intro v9 w5 hs9 hb9 hg9 hat9
   obtain ⟨A9, c9, rfl⟩ := Kd.S_slice hs9
   have HS9 := Aside0.mk hs9
   have HB9 := Aside0.mk hb9
   have hC9 := Aside0.mk (show ∀ (g i : Nat) (v : Value), g < gO + 2 → w1.cell? ⟨g, i, none⟩ = some v → w5.cell? ⟨g, i, none⟩ = some v from fun g i v hg hc => cell_grown hg9 hc (fun he => by have := Kd.S_base HSO.out g he.symm; omega))
   have HG9 := Aside0.mk hg9
   clear hs9 hb9 hat9 hg9
   refine hK.out _ _ ?_
   clear hK K
   refine norm_ (a' := ?_) ?_ ?_
   rotate_left
   ·show Act.put _ (some 32) _ = _
    simp only [Act.put, List.setIfInBounds_toArray, List.set_cons_zero, List.set_cons_succ, i64_w, i32_w]
    rfl
   refine last_ (i := 23) (N := none) #[true, true, true, true, true, true, true, true, true, true, true, true, true, true, true, true, true, true, true, true, true, true, true, true] rfl rfl (by kernel_rfl) (by decide) (fun K hK => ?_)
   have hz := (HSTO.out w1 w5 HQ1.out HG9.out).1
   have hy := (HSTO.out w1 w5 HQ1.out HG9.out).2
   refine skip_ (w1 := ?_) (by rfl) rfl ?_ ?_
   rotate_left
   ·go_simp
    rfl
   refine hK.out _ _ ?_
   clear hK K
   refine done_ (by kernel_rfl) ?_
   have hb5 := HBK.out w1 w5 HQ1.out HG9.out
   have HS9' := Aside0.mk (S_setElder HS9.out (p := ⟨gO, 0, none⟩) (show gO < gO + 2 by omega) (.slice A9 (out ++ [⟨kindB s0 s1 s2, s0, s1, s2⟩] : List S34).length c9))
   obtain ⟨X, hX⟩ : ∃ X, X = w5.setCell ⟨gO, 0, none⟩ (.slice A9 (out.length + 1) c9) := ⟨_, rfl⟩
   have el : (out ++ [⟨kindB s0 s1 s2, s0, s1, s2⟩] : List S34).length = out.length + 1 := by simp
   rw [el, ← hX] at HS9'
   rw [← hX]
   have hXO : X.heap[gO]? = some (.cells #[.slice A9 (out.length + 1) c9] 24 (0, 0)) := by
    rw [hX]
    exact one_setCell (hb5.1.trans HOD.out)
   have hXA : X.heap[gO + 1]? = some (.cells #[.int .i64 (a0 : Int), .int .i64 (a1 : Int), .int .i64 (a2 : Int)] 54 (0, 0)) := by
    rw [hX, set_other (by omega)]
    exact hb5.2.1.trans HAD.out
   have hXP : X.heap[gP]? = some (.cells #[.int .i64 (t0 : Int), .int .i64 (t1 : Int), .int .i64 (t2 : Int)] 54 (0, 0)) := by
    rw [hX, set_other (by have := HGP.out; have := HZ.out; omega)]
    exact hb5.2.2.1.trans HPD.out
   have hXB : Below gO W X := by
    rw [hX]
    exact (Below.trans (Below.mono HWD.out (by have := HZ.out; omega)) hb5.2.2.2).setCell (p := ⟨gO, 0, none⟩) (Nat.le_refl _) _
   have hXS : gO + 2 ≤ X.heap.size := by
    rw [hX]
    exact Nat.le_trans (Nat.le_trans HSZ1.out (by have h_ := HG9.out.size; exact h_)) ((Below.refl (gO) w5).setCell (p := ⟨gO, 0, none⟩) (Nat.le_refl _) (.slice A9 (out.length + 1) c9)).size
   obtain ⟨p0, p1, p2, _, _, _⟩ := three_cells hXP
   obtain ⟨q0, q1, q2, z0, z1, z2⟩ := three_cells hXA
   have HXO := Aside0.mk hXO
   have HXA := Aside0.mk hXA
   have HXB := Aside0.mk hXB
   have HXS := Aside0.mk hXS
   clear hX hXO hXA hXP hXB hXS hb5 el
   go_wp2
   go_end0
   have h2 := cut_tail (t0 := t0) (t1 := t1) (t2 := t2) HXO.out HXA.out HS9'.out HXS.out
   exact ⟨rfl, h2.1, Below.trans HXB.out h2.2⟩
  ·cases h
end Go.Proofs.Ytahpbpacjciddaa.Pr
end
section
namespace Go.Proofs
open Go.Shelf
def Try.lays156_ren : Go.Shelf.Ren := ⟨fun | 156 => 40 | 165 => 52 | 166 => 53 | 169 => 54 | 240 => 64 | 241 => 65 | 276 => 70 | 277 => 71 | n => n, fun | 31 => 22 | 9 => 9 | 3 => 3 | 4 => 4 | 0 => 0 | 20 => 20 | 72 => 90 | 76 => 94 | 70 => 88 | 37 => 48 | 75 => 93 | 127 => 107 | 164 => 116 | 5 => 5 | 80 => 96 | n => n, fun | n => n⟩
theorem Try.lays156 : Go.Proofs.Lays.n156 Try.prog Try.lays156_ren := {
 mixed := by kernel_rfl
 f156 := Try.func40.trans (congrArg some (by kernel_rfl))
 f165 := Try.func52.trans (congrArg some (by kernel_rfl))
 f166 := Try.func53.trans (congrArg some (by kernel_rfl))
 f169 := Try.func54.trans (congrArg some (by kernel_rfl))
 f240 := Try.func64.trans (congrArg some (by kernel_rfl))
 f241 := Try.func65.trans (congrArg some (by kernel_rfl))
 f276 := Try.func70.trans (congrArg some (by kernel_rfl))
 f277 := Try.func71.trans (congrArg some (by kernel_rfl))
 t0 := Try.underlying0
 a0 := Try.isAgg0
 z0 := Try.sizeOf0
 v0 := Try.zeroValue0
 t3 := Try.underlying3
 a3 := Try.isAgg3
 z3 := Try.sizeOf3
 v3 := Try.zeroValue3
 t4 := Try.underlying4
 a4 := Try.isAgg4
 z4 := Try.sizeOf4
 v4 := Try.zeroValue4
 t9 := Try.underlying9
 a9 := Try.isAgg9
 z9 := Try.sizeOf9
 v9 := Try.zeroValue9
 t20 := Try.underlying20
 a20 := Try.isAgg20
 z20 := Try.sizeOf20
 v20 := Try.zeroValue20
 t31 := Try.underlying22
 a31 := Try.isAgg22
 z31 := Try.sizeOf22
 v31 := Try.zeroValue22
 t37 := Try.underlying48
 a37 := Try.isAgg48
 z37 := Try.sizeOf48
 v37 := Try.zeroValue48
 t70 := Try.underlying88
 a70 := Try.isAgg88
 z70 := Try.sizeOf88
 v70 := Try.zeroValue88
 t72 := Try.underlying90
 a72 := Try.isAgg90
 z72 := Try.sizeOf90
 v72 := Try.zeroValue90
 t75 := Try.underlying93
 a75 := Try.isAgg93
 z75 := Try.sizeOf93
 v75 := Try.zeroValue93
 t76 := Try.underlying94
 a76 := Try.isAgg94
 z76 := Try.sizeOf94
 v76 := Try.zeroValue94
 t127 := Try.underlying107
 a127 := Try.isAgg107
 z127 := Try.sizeOf107
 v127 := Try.zeroValue107
 t164 := Try.underlying116
 a164 := Try.isAgg116
 z164 := Try.sizeOf116
 v164 := Try.zeroValue116 }
theorem Try.Builder_Extra_156 : Builder.Extra Try.prog Try.lays156_ren := {
 sizeBuilder := by kernel_rfl
 liesBuilder := by kernel_rfl
 t5 := Try.underlying5
 a5 := Try.isAgg5
 z5 := Try.sizeOf5
 v5 := Try.zeroValue5
 infoByte := by kernel_rfl
 cellsByte := by kernel_rfl
 sizeByte := by kernel_rfl
 neB5 := by decide }
open Go.RowKit in
theorem Try.strings_Join (bk o c : Nat) (xs : List ByteArray) (sep : ByteArray) (w : World) (hcells : ∀ (j : Nat) x, xs[j]? = some x → w.cell? ⟨bk, o + j, none⟩ = some (.string x)) (hbk : bk < w.heap.size) (hN : xs.length ≤ 140737488355328) (hcap : xs.length ≤ c) (hlen : (Lib.join (xs.map (·.data.toList)) sep.data.toList).length ≤ 140737488355328) :
  Calls Try.prog 40 #[.slice (some ⟨bk, o, none⟩) xs.length c, .string sep] w fun e w' => e = .returned (.string ⟨(Lib.join (xs.map (·.data.toList)) sep.data.toList).toArray⟩) ∧ Below w.heap.size w w' := Any.strings_Join Try.lays156 Try.Builder_Extra_156 bk o c xs sep w hcells hbk hN hcap hlen
def Try.lays137_ren : Go.Shelf.Ren := ⟨fun | 137 => 48 | 217 => 62 | 266 => 69 | n => n, fun | 9 => 9 | 5 => 5 | 3 => 3 | n => n, fun | n => n⟩
theorem Try.lays137 : Go.Proofs.Lays.n137 Try.prog Try.lays137_ren := {
 mixed := by kernel_rfl
 f137 := Try.func48.trans (congrArg some (by kernel_rfl))
 f217 := Try.func62.trans (congrArg some (by kernel_rfl))
 f266 := Try.func69.trans (congrArg some (by kernel_rfl))
 t3 := Try.underlying3
 a3 := Try.isAgg3
 z3 := Try.sizeOf3
 v3 := Try.zeroValue3
 t5 := Try.underlying5
 a5 := Try.isAgg5
 z5 := Try.sizeOf5
 v5 := Try.zeroValue5
 t9 := Try.underlying9
 a9 := Try.isAgg9
 z9 := Try.sizeOf9
 v9 := Try.zeroValue9 }
open Go.RowKit in
theorem Try.strings_IndexByte (s : ByteArray) (c : Int) (w : World) :
  Calls Try.prog 48 #[.string s, .int .u8 c] w fun e w' => e = .returned (.int .i64 (Lib.indexByte s.data.toList c.toNat.toUInt8)) ∧ w' = w := Any.strings_IndexByte Try.lays137 s c w
def Try.lays212_ren : Go.Shelf.Ren := ⟨fun | 212 => 58 | 263 => 66 | 264 => 67 | n => n, fun | 46 => 101 | 51 => 108 | 146 => 109 | 53 => 111 | 148 => 112 | n => n, fun | n => n⟩
theorem Try.lays212 : Go.Proofs.Lays.n212 Try.prog Try.lays212_ren := {
 mixed := by kernel_rfl
 f212 := Try.func58.trans (congrArg some (by kernel_rfl))
 f263 := Try.func66.trans (congrArg some (by kernel_rfl))
 f264 := Try.func67.trans (congrArg some (by kernel_rfl))
 t46 := Try.underlying101
 a46 := Try.isAgg101
 z46 := Try.sizeOf101
 v46 := Try.zeroValue101
 t51 := Try.underlying108
 a51 := Try.isAgg108
 z51 := Try.sizeOf108
 v51 := Try.zeroValue108
 t53 := Try.underlying111
 a53 := Try.isAgg111
 z53 := Try.sizeOf111
 v53 := Try.zeroValue111
 t146 := Try.underlying109
 a146 := Try.isAgg109
 z146 := Try.sizeOf109
 v146 := Try.zeroValue109
 t148 := Try.underlying112
 a148 := Try.isAgg112
 z148 := Try.sizeOf112
 v148 := Try.zeroValue112 }
open Go.RowKit Go.Lib in
theorem Try.bits_Mul (x y : Nat) (hx : x < 18446744073709551616) (hy : y < 18446744073709551616) (w : World) :
  Calls Try.prog 58 #[.int .u64 x, .int .u64 y] w fun e w' => e = .returned (.tuple #[.int .u64 ((x * y / 18446744073709551616 : Nat) : Int), .int .u64 ((x * y % 18446744073709551616 : Nat) : Int)]) ∧ w' = w := Any.bits_Mul Try.lays212 x y hx hy w
end Go.Proofs
end
section
namespace Go.Proofs.Ytahpbpacjciddaa.Pr
open Go.RowKit Go.Proofs.YtahpbpacjciddaaW.PrintWords Go.Proofs.YtahpbpacjciddaaW.PrintLast Go.Proofs.YtahpbpacjciddaaW.PrintMore
def repFill (n m : Nat) (v : Int) : List Value := List.replicate m (.int .i64 v) ++ List.replicate (n - m) (.int .i64 0)
theorem isz3 : (Try.prog.info? 3).map (·.size) = some 1 := by kernel_rfl
theorem repFill_splice (n m : Nat) (v : Int) (c : Nat) (h : m + c ≤ n) : splice (repFill n m v) m (List.replicate c (.int .i64 v)) = repFill n (m + c) v := by
  unfold splice repFill
  rw [List.take_left' List.length_replicate, List.length_replicate, ← List.drop_drop, List.drop_left' List.length_replicate, List.drop_replicate, ← List.append_assoc, List.replicate_append_replicate, show n - m - c = n - (m + c) by omega]
theorem repFill_length (n m : Nat) (v : Int) (h : m ≤ n) : (repFill n m v).length = n := by
  simp [repFill]; omega
theorem repFill_full (n : Nat) (v : Int) : repFill n n v = List.replicate n (.int .i64 v) := by simp [repFill]
theorem repFill_none (n : Nat) (v : Int) : repFill n 0 v = List.replicate n (.int .i64 0) := by simp [repFill]
theorem repFill_at {w : World} {g n m : Nat} {v : Int} (h : w.heap[g]? = some (.cells (repFill n m v).toArray 3 (0, 0))) (j : Nat) (hj : j < m) : w.cell? ⟨g, 0 + j, none⟩ = some (.int .i64 v) := by
  have h2 : (repFill n m v)[j]? = some (.int .i64 v) := by
    unfold repFill
    rw [List.getElem?_append_left (by rw [List.length_replicate]; exact hj), List.getElem?_replicate, if_pos hj]
  simp only [World.cell?, h, Nat.zero_add]
  simpa using h2
theorem repFill_R {w : World} {g n b : Nat} {v : Int} (h : w.heap[g]? = some (.cells (repFill n n v).toArray 3 (0, 0))) (hb : b ≤ g) (hn : n ≤ 1000000) : Kd.R (Kd.int .i64) 3 w b (fun _ => True) (.slice (some ⟨g, 0, none⟩) n n) (List.replicate n v) := by
  rw [repFill_full] at h
  refine ⟨fun _ _ => trivial, List.replicate n (.int .i64 v), ⟨by simp [show (Kd.int .i64).sz = 1 from rfl], .inr ⟨g, n, _, by simp, hb, h, by simp, by unfold maxLen; omega, by simp [show (Kd.int .i64).sz = 1 from rfl], by simp [show (Kd.int .i64).sz = 1 from rfl]⟩⟩, ?_⟩
  refine ⟨by simp [show (Kd.int .i64).sz = 1 from rfl], fun j p hj => ?_⟩
  have hjl := (List.getElem?_eq_some_iff.1 hj).1
  rw [List.length_replicate] at hjl
  rw [List.getElem?_replicate, if_pos hjl] at hj
  obtain rfl := Option.some.inj hj
  show List.take 1 (List.drop (j * 1) (List.replicate n (Value.int .i64 v))) = [.int .i64 v]
  rw [Nat.mul_one, List.drop_replicate, List.take_replicate, show min 1 (n - j) = 1 by omega]
  rfl
set_option maxHeartbeats 4000000 in
set_option maxRecDepth 100000 in
theorem repeat_any (b0 o0 c n : Nat) (v : Int) (w : World) (hc : w.cell? ⟨b0, o0, none⟩ = some (.int .i64 v)) (hn : 0 < n) (hn2 : n ≤ 1000000) :
    Calls Try.prog 42 #[.slice (some ⟨b0, o0, none⟩) 1 c, .int .i64 (n : Int)] w fun e w' => ∃ v0 : Value, e = .returned v0 ∧ Kd.R (Kd.int .i64) 3 w' w.heap.size (fun _ => True) v0 (List.replicate n v) ∧ Below w.heap.size w w' := by
  obtain ⟨i0, hi, hzz⟩ := Option.map_eq_some_iff.1 info3
  simp only [Prod.mk.injEq] at hzz
  obtain ⟨hz0, hz1, hz2⟩ := hzz
  have hmk : ∀ W, (Instr.makeSlice 51 (.int .i64 (n : Int)) (.int .i64 (n : Int))).run Try.prog W = .ok (.slice (some ⟨W.heap.size, 0, none⟩) n n) (W.alloc (.cells (repFill n 0 v).toArray 3)) := fun W => by
    have h := run_makeSlice (P := Try.prog) W 51 3 i0 (.int .i64 0) Try.underlying51 hi hz0 .i64 .i64 n n (by omega) (by omega) (by rw [hz1]; simp; omega) (by rw [hz2]; omega) (by omega)
    rw [hz1, Int.toNat_natCast, Nat.mul_one] at h
    rw [h, repFill_none]
    have e : madeCells (Value.int .i64 0).cells n = (List.replicate n (Value.int .i64 0)).toArray := by
      rw [← toList_madeCells_one]
      rfl
    rw [e]
  have hmul : ∀ W, Calls Try.prog 58 #[.int .u64 1, .int .u64 (n : Int)] W fun e w' => e = .returned (.tuple #[.int .u64 0, .int .u64 (n : Int)]) ∧ W = w' := fun W => by
    refine (Try.bits_Mul 1 n (by omega) (by omega) W).mono ?_
    rintro e w' ⟨rfl, h⟩
    refine ⟨?_, h.symm⟩
    rw [Nat.one_mul, Nat.div_eq_of_lt (by omega), Nat.mod_eq_of_lt (by omega)]
    rfl
  have HMUL := Aside0.mk hmul
  have HCC := Aside0.mk hc
  clear hi hz0 hz1 hz2 hmul hc
  have k1 : decide ((n : Int) < 0) = false := decide_eq_false (by omega)
  have k2 : decide ((9223372036854775807 : Int) < (n : Int)) = false := decide_eq_false (by omega)
  have k3 : (0 : Int) ≤ (n : Int) := by omega
  go_enter Try.func42, Try.ntmps42
  go_wp2_with (first
    | (go_at_call 58; (with_reducible refine (HMUL.out _).mono ?_); rintro e w' ⟨rfl, rfl⟩)
    | ((with_reducible refine gate_dst (N := 33) rfl ?_); refine wpList_copy_splice rfl (.tmp 31) (.tmp 32) 51 51 rfl 3 Try.underlying51 isz3 (some ⟨w.heap.size, 0, none⟩) (some ⟨b0, o0, none⟩) n n 1 c rfl rfl w.heap.size 0 (repFill n 0 v) 3 (Go.heap_alloc_new w _) [.int .i64 v] ?c1 ?c2 ?c3 ?c4 w.heap.size w ((Below.refl _ _).alloc (Nat.le_refl _) _) (Nat.le_refl _) ?_
       (case c1 => show 1 = min 1 n; omega)
       (case c2 => exact fun _ => ⟨rfl, ⟨b0, o0, none⟩, rfl, fun j u hj => by
          obtain ⟨rfl, rfl⟩ : j = 0 ∧ u = .int .i64 v := by
            cases j with
            | zero => exact ⟨rfl, by simpa using hj.symm⟩
            | succ j => cases hj
          exact pc_keep (i := o0) ((Below.refl w.heap.size w).alloc (Nat.le_refl _) _) (World.block_lt_of_cell? _ _ HCC.out) HCC.out⟩)
       (case c3 => rw [repFill_length n 0 v (by omega)]; show 0 + 1 ≤ n; omega)
       (case c4 => intro u hu; rw [List.mem_singleton.1 hu]; rfl)
       intro w5 hg5 hb5
       have HG5 := Aside0.mk (hg5 : w5.heap[w.heap.size]? = _)
       have HB5 := Aside0.mk hb5
       clear hg5 hb5))
  rw [show splice (repFill n 0 v) 0 [Value.int .i64 v] = repFill n 1 v from repFill_splice n 0 v 1 (by omega)] at HG5
  have k4 : ((goInt 1) : Value) = .int .i64 ((1 : Nat) : Int) := rfl
  obtain ⟨g, hg⟩ : ∃ g, g = w.heap.size := ⟨_, rfl⟩
  have HGL := Aside0.mk (show w.heap.size ≤ g by omega)
  rw [← hg] at HG5
  simp only [← hg]
  clear hg
  go_loopg [8] n (fun nq v8 wr => ∃ m : Nat, v8 = .int .i64 (m : Int) ∧ 0 < m ∧ m ≤ n ∧ n - m ≤ nq ∧ Aside0 (wr.heap[g]? = some (.cells (repFill n m v).toArray 3 (0, 0))) ∧ Aside0 (Below w.heap.size w wr))
  case atStart => exact ⟨1, rfl, by omega, by omega, by omega, HG5, HB5⟩
  case round =>
    clear HG5 HB5
    obtain ⟨m, rfl, hm0, hm, hmq, HG, HB⟩ := hrel
    by_cases hlt : m < n
    · have q1 : decide ((m : Int) < (n : Int)) = true := decide_eq_true (by omega)
      have q2 : decide (m < n) = true := decide_eq_true hlt
      have q3 : (0 : Int) ≤ (m : Int) := by omega
      have q4 : (m : Int) ≤ (n : Int) := by omega
      have q5 : m ≤ n := hm
      have q6 : ¬ n = m := by omega
      obtain ⟨W, rfl⟩ : ∃ W, W = wr := ⟨_, rfl⟩
      obtain ⟨cn, hcn⟩ : ∃ cn, cn = min m (n - m) := ⟨_, rfl⟩
      have hn1 : m + cn ≤ n := by omega
      have hn3 : 0 < cn := by omega
      have hn4 : cn ≤ m := by omega
      have HCN := Aside0.mk hcn
      clear hcn
      have HG1 := Aside0.mk (show W.drew.heap[g]? = some (.cells (repFill n m v).toArray 3 (0, 0)) from HG.out)
      have HCP := Aside0.mk (show ∀ (j : Nat) u, (List.replicate cn (Value.int .i64 v))[j]? = some u → W.drew.cell? ((⟨g, 0, none⟩ : Addr).add j) = some u from fun j u hj => by
        have hjl := (List.getElem?_eq_some_iff.1 hj).1
        rw [List.length_replicate] at hjl
        rw [List.getElem?_replicate, if_pos hjl] at hj
        obtain rfl := Option.some.inj hj
        rw [show (⟨g, 0, none⟩ : Addr).add j = ⟨g, 0 + j, none⟩ by unfold Addr.add; split <;> simp_all]
        exact repFill_at HG1.out j (by omega))
      have HFIT := Aside0.mk (show m + (List.replicate cn (Value.int .i64 v)).length ≤ (repFill n m v).length by rw [repFill_length n m v hm, List.length_replicate]; omega)
      have HONE := Aside0.mk (show ∀ u ∈ List.replicate cn (Value.int .i64 v), u.oneCell' = true from fun u hu => by rw [(List.mem_replicate.1 hu).2]; rfl)
      have HBD := Aside0.mk (Below.trans HB.out (below_drew1 (Below.refl _ _)))
      have HMN := Aside0.mk hm0
      clear HG HB
      go_upto_region 9 with fail
      refine start_ (n := 10) (S := fun w' => True) (ds := [7]) #[false, false, false, false, false, false, false, false, false, false] (by kernel_rfl) rfl rfl trivial (fun hHeld => ?_)
      refine pure_ (i := 0) (N := some 38) (v := ?_) (a' := ?_) #[true, false, false, false, false, false, false, false, false, false] rfl rfl (by kernel_rfl) (fun _ _ _ h => h) (Or.inl ⟨by rfl, ?_⟩) ?_ ?_
      rotate_left
      · intro w'
        go_simp
        with_reducible rfl
      rotate_left
      · simp only [Act.put, List.setIfInBounds_toArray, List.set_cons_zero, List.set_cons_succ, i64_w, i32_w]
        rfl
      refine pure_ (i := 1) (N := some 39) (v := ?_) (a' := ?_) #[true, true, false, false, false, false, false, false, false, false] rfl rfl (by kernel_rfl) (fun _ _ _ h => h) (Or.inl ⟨by rfl, ?_⟩) ?_ ?_
      rotate_left
      · intro w'
        go_simp
        with_reducible rfl
      rotate_left
      · simp only [Act.put, List.setIfInBounds_toArray, List.set_cons_zero, List.set_cons_succ, i64_w, i32_w]
        rfl
      refine pure_ (i := 2) (N := some 40) (v := ?_) (a' := ?_) #[true, true, true, false, false, false, false, false, false, false] rfl rfl (by kernel_rfl) (fun _ _ _ h => h) (Or.inl ⟨by rfl, ?_⟩) ?_ ?_
      rotate_left
      · intro w'
        go_simp
        with_reducible rfl
      rotate_left
      · simp only [Act.put, List.setIfInBounds_toArray, List.set_cons_zero, List.set_cons_succ, i64_w, i32_w]
        rfl
      refine pure_ (i := 3) (N := some 41) (v := ?_) (a' := ?_) #[true, true, true, true, false, false, false, false, false, false] rfl rfl (by kernel_rfl) (fun _ _ _ h => h) (Or.inl ⟨by rfl, ?_⟩) ?_ ?_
      rotate_left
      · intro w'
        go_simp
        with_reducible rfl
      rotate_left
      · simp only [Act.put, List.setIfInBounds_toArray, List.set_cons_zero, List.set_cons_succ, i64_w, i32_w]
        rfl
      refine pure_ (i := 4) (N := some 42) (v := ?_) (a' := ?_) #[true, true, true, true, true, false, false, false, false, false] rfl rfl (by kernel_rfl) (fun _ _ _ h => h) (Or.inl ⟨by rfl, ?_⟩) ?_ ?_
      rotate_left
      · intro w'
        go_simp
        with_reducible rfl
      rotate_left
      · simp only [Act.put, List.setIfInBounds_toArray, List.set_cons_zero, List.set_cons_succ, i64_w, i32_w]
        rfl
      refine pure_ (i := 5) (N := some 43) (v := ?_) (a' := ?_) #[true, true, true, true, true, true, false, false, false, false] rfl rfl (by kernel_rfl) (fun _ _ _ h => h) (Or.inl ⟨by rfl, ?_⟩) ?_ ?_
      rotate_left
      · intro w'
        go_simp
        with_reducible rfl
      rotate_left
      · simp only [Act.put, List.setIfInBounds_toArray, List.set_cons_zero, List.set_cons_succ, i64_w, i32_w]
        rfl
      refine pure_ (i := 6) (N := some 44) (v := ?_) (a' := ?_) #[true, true, true, true, true, true, true, false, false, false] rfl rfl (by kernel_rfl) (fun _ _ _ h => h) (Or.inl ⟨by rfl, ?_⟩) ?_ ?_
      rotate_left
      · intro w'
        go_simp
        with_reducible rfl
      rotate_left
      · simp only [Act.put, List.setIfInBounds_toArray, List.set_cons_zero, List.set_cons_succ, i64_w, i32_w]
        rfl
      refine last_ (i := 7) (N := some 45) #[true, true, true, true, true, true, true, true, false, false] rfl rfl (by kernel_rfl) (by decide) (fun K hK => ?_)
      refine step_copy_splice (by rfl) (.tmp 41) (.tmp 44) 51 51 (by rfl) 3 Try.underlying51 isz3 (some ⟨g, m, none⟩) (some ⟨g, 0, none⟩) (n - m) (n - m) m n (by rfl) (by rfl) g m (repFill n m v) 3 HG1.out (List.replicate cn (.int .i64 v)) (by rw [List.length_replicate]; exact HCN.out) (fun _ => ⟨rfl, ⟨g, 0, none⟩, rfl, HCP.out⟩) HFIT.out HONE.out (w.heap.size) w HBD.out HGL.out ?_
      intro w5 hg5 hb5
      rw [List.length_replicate]
      have HG5 := Aside0.mk (hg5 : w5.heap[g]? = _)
      have HB5 := Aside0.mk hb5
      clear hg5 hb5
      refine hK.out _ _ ?_
      clear hK K
      refine norm_ (a' := ?_) ?_ ?_
      rotate_left
      · show Act.put _ (some 45) _ = _
        simp only [Act.put, List.setIfInBounds_toArray, List.set_cons_zero, List.set_cons_succ, i64_w, i32_w]
        rfl
      refine pure_ (i := 8) (N := some 46) (v := ?_) (a' := ?_) #[true, true, true, true, true, true, true, true, true, false] rfl rfl (by kernel_rfl) (fun _ _ _ h => h) (Or.inl ⟨by rfl, ?_⟩) ?_ ?_
      rotate_left
      · intro w'
        go_simp
        with_reducible rfl
      rotate_left
      · simp only [Act.put, List.setIfInBounds_toArray, List.set_cons_zero, List.set_cons_succ, i64_w, i32_w]
        rfl
      refine pure_ (i := 9) (N := some 8) (v := ?_) (a' := ?_) #[true, true, true, true, true, true, true, true, true, true] rfl rfl (by kernel_rfl) (fun _ _ _ h => h) (Or.inl ⟨by rfl, ?_⟩) ?_ ?_
      rotate_left
      · intro w'
        go_simp
        with_reducible rfl
      rotate_left
      · simp only [Act.put, List.setIfInBounds_toArray, List.set_cons_zero, List.set_cons_succ, i64_w, i32_w]
        rfl
      refine done_ (by kernel_rfl) ?_
      rw [repFill_splice n m v _ (by omega)] at HG5
      go_wp2
      go_roundg (n - (m + cn))
      case measure => omega
      case rel => exact ⟨m + cn, by rw [show wrap64 ((m : Int) + (cn : Int)) = ((m + cn : Nat) : Int) by unfold wrap64; omega], by omega, by omega, by omega, HG5, HB5⟩
    · obtain rfl : m = n := by omega
      have q1 : decide ((m : Int) < (m : Int)) = false := decide_eq_false (by omega)
      have q2 : decide (m < m) = false := decide_eq_false (by omega)
      go_wp2
      go_ret
      exact ⟨_, rfl, repFill_R HG.out HGL.out hn2, HB.out⟩
end Go.Proofs.Ytahpbpacjciddaa.Pr
end
section
namespace Go.Proofs.Ytahpbpacjciddaa.Pr
open Go.RowKit Go.Proofs.YtahpbpacjciddaaW.PrintWords Go.Proofs.YtahpbpacjciddaaW.PrintLast Go.Proofs.YtahpbpacjciddaaW.PrintMore
def feedy (s : ByteArray) : Bool := decide (0 ≤ Go.Lib.indexByte s.data.toList 10)
def idxFrom (p : ByteArray → Bool) : List ByteArray → Nat → Int
 | [], _ => -1
 | s :: l, i => if p s = true then (i : Int) else idxFrom p l (i + 1)
theorem idxFrom_hit (p : ByteArray → Bool) : ∀ (l : List ByteArray) (i kk : Nat) (hk : kk < l.length), (∀ j (hj : j < kk), p (l[j]'(by omega)) = false) → p l[kk] = true → idxFrom p l i = ((i + kk : Nat) : Int)
 | s :: l, i, 0, _, _, h => by simp only [List.getElem_cons_zero] at h; simp [idxFrom, h]
 | s :: l, i, kk + 1, hk, hn, h => by
  have h0 := hn 0 (by omega)
  simp only [List.getElem_cons_zero] at h0
  simp only [idxFrom, h0]
  have := idxFrom_hit p l (i + 1) kk (by simpa using hk) (fun j hj => by simpa using hn (j + 1) (by omega)) (by simpa using h)
  rw [if_neg (by simp), this]
  omega
theorem idxFrom_miss (p : ByteArray → Bool) : ∀ (l : List ByteArray) (i : Nat), (∀ j (hj : j < l.length), p (l[j]'hj) = false) → idxFrom p l i = -1
 | [], i, _ => rfl
 | s :: l, i, h => by
  have h0 := h 0 (by simp)
  simp only [List.getElem_cons_zero] at h0
  simp only [idxFrom, h0]
  rw [if_neg (by simp)]
  exact idxFrom_miss p l (i + 1) (fun j hj => h (j + 1) (by simpa using hj))
theorem idxFrom_nonneg (p : ByteArray → Bool) : ∀ (l : List ByteArray) (i : Nat), 0 ≤ idxFrom p l i ↔ l.any p = true
 | [], i => by simp [idxFrom]
 | s :: l, i => by
  have ih := idxFrom_nonneg p l (i + 1)
  by_cases h : p s = true
  ·simp [idxFrom, h]
  ·simp only [idxFrom, List.any_cons, Bool.eq_false_iff.2 h, Bool.false_or]
   exact ih
theorem idxFrom_any (p : ByteArray → Bool) (l : List ByteArray) (i : Nat) : decide (0 ≤ idxFrom p l i) = l.any p := by
 rw [Bool.eq_iff_iff, decide_eq_true_iff]
 exact idxFrom_nonneg p l i
theorem odd1_any (s : ByteArray) (w : World) : Calls Try.prog 63 #[.string s] w fun e w' => e = .returned (.bool (feedy s)) ∧ w' = w := by
 go_enter Try.func63, Try.ntmps63
 go_wp2_with (go_at_call 48; refine (Try.strings_IndexByte _ _ _).mono ?_; rintro e w' ⟨rfl, rfl⟩)
 go_ret
 exact ⟨rfl, rfl⟩
set_option maxHeartbeats 2000000 in
theorem idxf_any (A0 : Option Addr) (c0 : Nat) (l0 : List ByteArray) (w : World) (hr0 : Kd.C Kd.string w A0 l0.length l0) :
  Calls Try.prog 61 #[.slice A0 l0.length c0, .func (.func 63) #[] #[]] w fun e w' => e = .returned (.int .i64 (idxFrom feedy l0 0)) ∧ Drawn0 w w' := by
 have hbig : l0.length ≤ 9223372036854775807 := hr0.2.1
 have eg : ∀ args w, (callFunc 63 args).run Try.prog w = .ok (.enter 63 args) w := enters_of Try.func63 (by kernel_rfl) rfl
 have HR0 := Aside0.mk hr0
 clear hr0
 go_enter Try.func61, Try.ntmps61
 go_wp2
 go_loopg [5, 8] l0.length (fun gg _ s8 wr => ∃ kk q : Nat, kk ≤ l0.length ∧ l0.length - kk ≤ gg ∧ s8 = .int .i64 kk ∧ wr = w.drewN q ∧ Aside0 (∀ j (hj : j < l0.length), j < kk → feedy (l0[j]'hj) = false))
 case atStart => exact ⟨0, 0, Nat.zero_le _, by omega, rfl, rfl, ⟨fun j _ hj => absurd hj (Nat.not_lt_zero _)⟩⟩
 case round =>
  obtain ⟨kk, q, hkk, hg, rfl, rfl, HN⟩ := hrel
  by_cases hlt : kk < l0.length
  ·have hltz : (kk : Int) < (l0.length : Int) := by omega
   obtain ⟨ad, rfl, hcell⟩ := Kd.at_string HR0.out (kk : Int) (by omega) (by omega)
   simp only [Int.toNat_natCast] at hcell
   have hy0 : rdOf ByteArray.empty l0 (kk : Int) = l0[kk] := by simp [rdOf, hlt]
   rw [hy0] at hcell
   obtain ⟨y, hy⟩ : ∃ y, y = l0[kk] := ⟨_, rfl⟩
   rw [← hy] at hcell
   have HY := Aside0.mk hy
   clear hy hy0
   have hcall := odd1_any y
   cases hq : feedy y with
   | true =>
    rw [hq] at hcall
    go_wp2_with (go_at_fn 63; refine (hcall _).mono ?_; rintro e w' ⟨rfl, rfl⟩)
    go_ret
    refine ⟨?_, ⟨⟨_, rfl⟩⟩⟩
    rw [idxFrom_hit feedy l0 0 kk hlt (fun j hj => HN.out j (by omega) hj) (by rw [← HY.out]; exact hq)]
    simp
   | false =>
    rw [hq] at hcall
    go_wp2_with (go_at_fn 63; refine (hcall _).mono ?_; rintro e w' ⟨rfl, rfl⟩)
    go_roundg (l0.length - (kk + 1))
    case measure => omega
    case rel =>
     refine ⟨kk + 1, _, by omega, by omega, by go_num, rfl, ⟨fun j hjl hj => ?_⟩⟩
     by_cases e : j = kk
     ·subst e
      rw [← HY.out]; exact hq
     ·exact HN.out j hjl (by omega)
  ·have hltz : ¬ (kk : Int) < (l0.length : Int) := by omega
   have hk : kk = l0.length := by omega
   have HK := Aside0.mk hk
   clear hk
   go_wp2
   go_ret
   refine ⟨?_, ⟨⟨q, rfl⟩⟩⟩
   rw [idxFrom_miss feedy l0 0 (fun j hj => HN.out j hj (by rw [HK.out]; exact hj))]
   rfl
theorem contains_any (A0 : Option Addr) (c0 : Nat) (l0 : List ByteArray) (w : World) (hr0 : Kd.C Kd.string w A0 l0.length l0) :
  Calls Try.prog 46 #[.slice A0 l0.length c0, .func (.func 63) #[] #[]] w fun e w' => e = .returned (.bool (l0.any feedy)) ∧ Drawn0 w w' := by
 rw [← idxFrom_any feedy l0 0]
 go_enter Try.func46, Try.ntmps46
 go_wp2_with (go_at_call 61; refine (idxf_any A0 c0 l0 _ hr0).mono ?_; rintro e w' ⟨rfl, ⟨q, rfl⟩⟩)
 go_ret
 exact ⟨rfl, ⟨⟨q, rfl⟩⟩⟩
def lines_odd.f (l0 : List ByteArray) : Option (Bool) := some (l0.any feedy)
theorem lines_odd.calls (A0 : Option Addr) (c0 : Nat) (l0 : List ByteArray) (r : Bool) (w : World) (hr0 : Kd.C Kd.string w A0 l0.length l0) (hc0 : l0.length ≤ c0) (h : lines_odd.f l0 = some r) :
  Calls Try.prog 51 #[.slice A0 l0.length c0] w fun e w' => e = .returned (.bool r) ∧ Drawn0 w w' := by
 obtain rfl : l0.any feedy = r := by simpa [lines_odd.f] using h
 clear h
 go_enter Try.func51, Try.ntmps51
 go_wp2_with (go_at_call 46; refine (contains_any A0 c0 l0 _ hr0).mono ?_; rintro e w' ⟨rfl, ⟨q, rfl⟩⟩)
 go_ret
 exact ⟨rfl, ⟨⟨q, rfl⟩⟩⟩
end Go.Proofs.Ytahpbpacjciddaa.Pr
end
section
namespace Go.Proofs.Ytahpbpacjciddaa.Pr
open Go.RowKit Go.Proofs.YtahpbpacjciddaaW.PrintWords Go.Proofs.YtahpbpacjciddaaW.PrintLast Go.Proofs.YtahpbpacjciddaaW.PrintMore
attribute [local go_sem] max2_int min2_int max_two min_two max_three min_three max_four min_four   
def lines_check.l0 : Nat → List ByteArray → Int → List ByteArray → Int → Int → Option (Int)
 | 0, _, _, _, _, _ => none
 | k + 1, x0, x3, x12, x13, x14 => if x14 < x13 then (if 0 ≤ x14 then (if x14 < (x12.length : Int) then (lines_check.l0 k x0 (wrap64 (x3 + ((rdOf ByteArray.empty x12 x14).size : Int))) x12 x13 (wrap64 (x14 + 1))) else (none)) else (none)) else (if x3 > 2000 then (some 4) else (if (x0.length : Int) = 0 then (some 8) else ((lines_odd.f x0).bind fun t323 => (if t323 = true then (some 8) else (some 0)))))
def lines_check.f (k : Nat) (l0 : List ByteArray) : Option (Int) := if (l0.length : Int) > 60 then (some 4) else (lines_check.l0 k l0 (wrap64 ((l0.length : Int) - 1)) l0 (l0.length : Int) 0)
set_option maxHeartbeats 8000000 in
set_option maxRecDepth 100000 in
theorem lines_check.calls (k : Nat) (A0 : Option Addr) (c0 : Nat) (l0 : List ByteArray) (r : Int) (w : World) (hr0 : Kd.C Kd.string w A0 l0.length l0) (hc0 : l0.length ≤ c0) (h : lines_check.f k l0 = some r) :
  Calls Try.prog 39 #[.slice A0 l0.length c0] w fun e w' => e = .returned (.int .i64 r) ∧ Drawn0 w w' := by
 have HR0 := Aside0.mk hr0
 have HC0 := Aside0.mk hc0
 clear hr0 hc0
 have H : (if (l0.length : Int) > 60 then (some 4) else (lines_check.l0 k l0 (wrap64 ((l0.length : Int) - 1)) l0 (l0.length : Int) 0)) = some r := h
 clear h
 by_cases c2 : (l0.length : Int) > 60
 ·rw [if_pos c2] at H
  have c2b0 : decide (60 < (l0.length : Int)) = true := decide_eq_true c2
  have c2b1 : decide (60 < l0.length) = true := decide_eq_true (by omega)
  clear c2
  obtain rfl := Option.some.inj H
  go_enter Try.func39, Try.ntmps39
  go_wp2
  go_ret
  exact ⟨by first | rfl | (simp; done) | (simp [*]; done), by repeat (first | exact Drawn0.refl _ | apply Drawn0.step)⟩
 ·rw [if_neg c2] at H
  have c2b0 : decide (60 < (l0.length : Int)) = false := decide_eq_false c2
  have c2b1 : decide (60 < l0.length) = false := decide_eq_false (by omega)
  clear c2
  have H' := Aside0.mk H
  clear H
  go_enter Try.func39, Try.ntmps39
  go_wp2
  go_loopg [3, 14] k (fun kq v3 v14 w' => ∃ (x3_1 : Int) (x14_1 : Int), v3 = .int .i64 x3_1 ∧ v14 = .int .i64 x14_1 ∧ Aside0 (lines_check.l0 kq l0 x3_1 l0 (l0.length : Int) x14_1 = some r) ∧ Aside0 (kq ≤ k) ∧ Drawn0 w w')
  case atStart => exact ⟨(wrap64 ((l0.length : Int) - 1)), (0), (by first | rfl | (simp; done) | (simp [*]; done)), (by first | rfl | (simp; done) | (simp [*]; done)), H', ⟨Nat.le_refl _⟩, by repeat (first | exact Drawn0.refl _ | apply Drawn0.step)⟩
  case round =>
   clear H'
   try clear c2
   try clear c2b0
   try clear c2b1
   try clear p2
   obtain ⟨x3_1, x14_1, rfl, rfl, HA, HK1, ⟨m1, rfl⟩⟩ := hrel
   cases gk with
   | zero => exact absurd HA.out (by simp [lines_check.l0])
   | succ k1 =>
    have H := HA.out
    clear HA
    simp only [lines_check.l0] at H
    by_cases c3 : x14_1 < (l0.length : Int)
    ·rw [if_pos c3] at H
     have c3b0 : decide (x14_1 < (l0.length : Int)) = true := decide_eq_true c3
     clear c3
     by_cases c4 : 0 ≤ x14_1
     ·rw [if_pos c4] at H
      have c4b0 : decide (0 ≤ x14_1) = true := decide_eq_true c4
      clear c4
      by_cases c5 : x14_1 < (l0.length : Int)
      ·rw [if_pos c5] at H
       have c5b0 : decide (x14_1 < (l0.length : Int)) = true := decide_eq_true c5
       clear c5
       have H' := Aside0.mk H
       clear H
       have p322 : 0 ≤ (x14_1 : Int) := of_decide_eq_true (by first | (with_reducible assumption) | assumption)
       have q322 : x14_1 < (l0.length : Int) := of_decide_eq_true (by first | (with_reducible assumption) | assumption)
       obtain ⟨ad322, e322, hx322_0⟩ := Kd.at_string HR0.out x14_1 p322 q322
       cases e322
       replace p322 := eq_true p322
       replace q322 := eq_true q322
       go_wp2
       go_roundg k1
       case measure => have := HK1.out; omega
       case rel => exact ⟨(wrap64 (x3_1 + ((rdOf ByteArray.empty l0 x14_1).size : Int))), (wrap64 (x14_1 + 1)), (by first | rfl | (simp; done) | (simp [*]; done)), (by first | rfl | (simp; done) | (simp [*]; done)), H', ⟨by have := HK1.out; omega⟩, by repeat (first | exact Drawn0.refl _ | apply Drawn0.step)⟩
      ·rw [if_neg c5] at H
       exact absurd H (by simp)
     ·rw [if_neg c4] at H
      exact absurd H (by simp)
    ·rw [if_neg c3] at H
     have c3b0 : decide (x14_1 < (l0.length : Int)) = false := decide_eq_false c3
     clear c3
     by_cases c6 : x3_1 > 2000
     ·rw [if_pos c6] at H
      have c6b0 : decide (2000 < x3_1) = true := decide_eq_true c6
      clear c6
      obtain rfl := Option.some.inj H
      go_wp2
      go_ret
      exact ⟨by first | rfl | (simp; done) | (simp [*]; done), by repeat (first | exact Drawn0.refl _ | apply Drawn0.step)⟩
     ·rw [if_neg c6] at H
      have c6b0 : decide (2000 < x3_1) = false := decide_eq_false c6
      clear c6
      by_cases c7 : (l0.length : Int) = 0
      ·rw [if_pos c7] at H
       have c7b0 : ((l0.length : Int) == 0) = true := beq_iff_eq.mpr c7
       have c7b1 : ((l0.length : Int) != 0) = false := bne_eq_false_iff_eq.mpr c7
       clear c7
       obtain rfl := Option.some.inj H
       go_wp2
       go_ret
       exact ⟨by first | rfl | (simp; done) | (simp [*]; done), by repeat (first | exact Drawn0.refl _ | apply Drawn0.step)⟩
      ·rw [if_neg c7] at H
       have c7b0 : ((l0.length : Int) == 0) = false := beq_eq_false_iff_ne.mpr c7
       have c7b1 : ((l0.length : Int) != 0) = true := bne_iff_ne.mpr c7
       have c7b2 : ¬ (l0 = []) := fun h_ => c7 (by rw [h_]; rfl)
       replace H := Option.bind_eq_some_iff.mp H
       obtain ⟨t323, A80, H⟩ := H
       replace H : (if t323 = true then (some 8) else (some 0)) = some r := H
       have A8 := Aside0.mk A80
       clear A80
       by_cases c9 : t323 = true
       ·subst c9
        have H1 : (some 8) = some r := by rw [if_pos rfl] at H; exact H
        clear H
        have H := H1
        clear H1
        obtain rfl := Option.some.inj H
        go_wp2_with (first | (go_at_call 51; (with_reducible refine (lines_odd.calls _ _ l0 true _ ?side1 ?side2 A8.out).mono ?_); (case side1 => repeat (first | exact HR0.out | (with_reducible refine Kd.C_alloc ?_ _) | (with_reducible refine Kd.C_drewN ?_ _) | (with_reducible refine Kd.C_drew ?_))); (case side2 => exact HC0.out); rintro e w' ⟨rfl, ⟨nd, rfl⟩⟩))
        go_ret
        exact ⟨by first | rfl | (simp; done) | (simp [*]; done), by repeat (first | exact Drawn0.refl _ | apply Drawn0.step)⟩
       ·replace c9 := Bool.eq_false_iff.mpr c9
        subst c9
        have H1 : (some 0) = some r := by rw [if_neg (show ¬ (false = true) by decide)] at H; exact H
        clear H
        have H := H1
        clear H1
        obtain rfl := Option.some.inj H
        go_wp2_with (first | (go_at_call 51; (with_reducible refine (lines_odd.calls _ _ l0 false _ ?side1 ?side2 A8.out).mono ?_); (case side1 => repeat (first | exact HR0.out | (with_reducible refine Kd.C_alloc ?_ _) | (with_reducible refine Kd.C_drewN ?_ _) | (with_reducible refine Kd.C_drew ?_))); (case side2 => exact HC0.out); rintro e w' ⟨rfl, ⟨nd, rfl⟩⟩))
        go_ret
        exact ⟨by first | rfl | (simp; done) | (simp [*]; done), by repeat (first | exact Drawn0.refl _ | apply Drawn0.step)⟩
end Go.Proofs.Ytahpbpacjciddaa.Pr
end
section
namespace Go.Proofs.Ytahpbpacjciddaa.Pr
open Go.RowKit Go.Proofs.YtahpbpacjciddaaW.PrintWords Go.Proofs.YtahpbpacjciddaaW.PrintLast Go.Proofs.YtahpbpacjciddaaW.PrintMore
def bytesIn (l : List ByteArray) : Nat := (l.map (·.size)).sum
def linesErr (l : List ByteArray) : Int := if 60 < l.length then 4 else if 2001 < bytesIn l + l.length then 4 else if l.length = 0 then 8 else if l.any feedy = true then 8 else 0
def small (l : List ByteArray) : Prop := ∀ s ∈ l, s.size ≤ 140737488351232
theorem bytesIn_take_succ (l : List ByteArray) (i : Nat) (h : i < l.length) : bytesIn (l.take (i + 1)) = bytesIn (l.take i) + l[i].size := by
 unfold bytesIn
 rw [take_succ_at l i h, List.map_append, List.sum_append]
 simp
theorem bytesIn_le (l : List ByteArray) (h : small l) : bytesIn l ≤ l.length * 140737488351232 := by
 induction l with
 | nil => simp [bytesIn]
 | cons s l ih =>
  have h1 := h s (by simp)
  have h2 := ih (fun x hx => h x (by simp [hx]))
  simp only [bytesIn, List.map_cons, List.sum_cons, List.length_cons] at h2 ⊢
  omega
theorem small_take {l : List ByteArray} (h : small l) (i : Nat) : small (l.take i) := fun s hs => h s (List.mem_of_mem_take hs)
theorem check_loop (l : List ByteArray) (hs : small l) (hl : l.length ≤ 60) : ∀ (d i : Nat), i + d = l.length →
  Ev (fun k => lines_check.l0 k l ((l.length : Int) - 1 + (bytesIn (l.take i) : Int)) l (l.length : Int) (i : Int)) (linesErr l) := by
 have hfin : Ev (fun k => lines_check.l0 k l ((l.length : Int) - 1 + (bytesIn (l.take l.length) : Int)) l (l.length : Int) (l.length : Int)) (linesErr l) := by
  refine Ev.step (fun k => by rw [lines_check.l0]) ?_
  refine Ev.neg (by omega) ?_
  rw [List.take_length]
  unfold linesErr
  rw [if_neg (show ¬ 60 < l.length by omega)]
  by_cases h1 : 2001 < bytesIn l + l.length
  ·rw [if_pos h1]
   exact Ev.pos (by omega) (Ev.now _)
  ·rw [if_neg h1]
   refine Ev.neg (by omega) ?_
   by_cases h2 : l.length = 0
   ·rw [if_pos h2]
    exact Ev.pos (by omega) (Ev.now _)
   ·rw [if_neg h2]
    refine Ev.neg (by omega) ?_
    by_cases h3 : l.any feedy = true
    ·rw [if_pos h3]
     exact Ev.bc (show lines_odd.f l = some true by unfold lines_odd.f; rw [h3]) (Ev.pos rfl (Ev.now _))
    ·rw [if_neg h3]
     exact Ev.bc (show lines_odd.f l = some false by unfold lines_odd.f; rw [Bool.eq_false_iff.2 h3]) (Ev.neg (by simp) (Ev.now _))
 intro d
 induction d with
 | zero =>
  intro i hi
  obtain rfl : i = l.length := by omega
  exact hfin
 | succ d ih =>
  intro i hi
  have hlt : i < l.length := by omega
  have hb := bytesIn_le _ (small_take hs (i + 1))
  have hs' := bytesIn_take_succ l i hlt
  have hk : (l.take (i + 1)).length ≤ 60 := by rw [List.length_take]; omega
  refine Ev.step (fun k => by rw [lines_check.l0]) ?_
  refine Ev.pos (by omega) (Ev.pos (by omega) (Ev.pos (by omega) ?_))
  rw [rdOf_at _ _ _ hlt, w64 (by omega), w64 (by omega)]
  have h := ih (i + 1) (by omega)
  rw [hs'] at h
  simpa [Int.add_assoc] using h
theorem check_ev (l : List ByteArray) (hs : small l) : Ev (fun k => lines_check.f k l) (linesErr l) := by
 unfold lines_check.f
 by_cases hl : 60 < l.length
 ·refine Ev.pos (by omega) (Ev.rt ?_)
  unfold linesErr
  rw [if_pos hl]
 ·refine Ev.neg (by omega) ?_
  have h := check_loop l hs (by omega) l.length 0 (by omega)
  rw [w64 (by omega)]
  simpa [bytesIn] using h
end Go.Proofs.Ytahpbpacjciddaa.Pr
end
section
namespace Go.Proofs.Ytahpbpacjciddaa.Pr
open Go.RowKit Go.Proofs.YtahpbpacjciddaaW.PrintWords Go.Proofs.YtahpbpacjciddaaW.PrintLast Go.Proofs.YtahpbpacjciddaaW.PrintMore
def joined (l : List ByteArray) : ByteArray := ⟨(Go.Lib.join (l.map (·.data.toList)) [10]).toArray⟩
def smallB (l : List ByteArray) : Bool := l.all fun s => decide (s.size ≤ 140737488351232)
theorem small_of_B {l : List ByteArray} (h : smallB l = true) : small l := fun s hs => of_decide_eq_true (List.all_eq_true.1 h s hs)
theorem B_of_small {l : List ByteArray} (h : small l) : smallB l = true := List.all_eq_true.2 fun s hs => decide_eq_true (h s hs)
theorem join_length (sep : UInt8) : ∀ l : List (List UInt8), (Go.Lib.join l [sep]).length = (l.map List.length).sum + (l.length - 1)
 | [] => by simp [Go.Lib.join]
 | [x] => by simp [Go.Lib.join_one]
 | x :: y :: l => by
  have h := join_length sep (y :: l)
  have e : Go.Lib.join (x :: y :: l) [sep] = x ++ [sep] ++ Go.Lib.join (y :: l) [sep] := by simp [Go.Lib.join, List.intercalate]
  rw [e, List.length_append, List.length_append, h]
  simp
  omega
theorem joined_size (l : List ByteArray) : (joined l).size = bytesIn l + (l.length - 1) := by
 have h := join_length 10 (l.map (·.data.toList))
 have e : ∀ m : List UInt8, (ByteArray.mk m.toArray).size = m.length := fun m => by simp [ByteArray.size]
 unfold joined
 rw [e, h]
 simp [bytesIn]
 congr 2
theorem linesErr_zero {l : List ByteArray} (h : linesErr l = 0) : l.length ≤ 60 ∧ bytesIn l + l.length ≤ 2001 ∧ 0 < l.length ∧ l.any feedy = false := by
 unfold linesErr at h
 split at h
 ·simp at h
 ·split at h
  ·simp at h
  ·split at h
   ·simp at h
   ·split at h
    ·simp at h
    ·rename_i h1 h2 h3 h4
     exact ⟨by omega, by omega, by omega, Bool.eq_false_iff.2 h4⟩
def lines_Join.f (l0 : List ByteArray) : Option (List Int × Int) := if smallB l0 = true then some (if linesErr l0 = 0 then (bytesOf (joined l0), 0) else ([], linesErr l0)) else none
theorem join_val (l : List ByteArray) (hs : small l) : lines_Join.f l = some (if linesErr l = 0 then (bytesOf (joined l), (0 : Int)) else (([] : List Int), linesErr l)) := by
 unfold lines_Join.f
 rw [if_pos (B_of_small hs)]
theorem join_str (A0 : Option Addr) (c0 : Nat) (l0 : List ByteArray) (w : World) (hr0 : Kd.C Kd.string w A0 l0.length l0) (hc0 : l0.length ≤ c0) (he : linesErr l0 = 0) :
  Calls Try.prog 40 #[.slice A0 l0.length c0, .string ⟨#[10]⟩] w fun e w' => e = .returned (.string (joined l0)) ∧ Below w.heap.size w w' := by
 obtain ⟨h1, h2, h3, _⟩ := linesErr_zero he
 obtain ⟨b, o, rfl, hb, hc⟩ := C_strings hr0 h3
 have hj := joined_size l0
 refine Try.strings_Join b o c0 l0 ⟨#[10]⟩ w hc hb (by omega) hc0 ?_
 have e : (Go.Lib.join (l0.map (·.data.toList)) [10]).length = (joined l0).size := by simp [joined, ByteArray.size]
 show (Go.Lib.join (l0.map (·.data.toList)) [10]).length ≤ 140737488355328
 omega
set_option maxHeartbeats 2000000 in
theorem lines_Join.calls (A0 : Option Addr) (c0 : Nat) (l0 : List ByteArray) (r1 : List Int) (r2 : Int) (w : World) (hr0 : Kd.C Kd.string w A0 l0.length l0) (hc0 : l0.length ≤ c0) (h : lines_Join.f l0 = some (r1, r2)) :
  Calls Try.prog 25 #[.slice A0 l0.length c0] w fun e w' => ∃ v0_ : Value, e = .returned (.tuple #[v0_, .int .i64 r2]) ∧ Kd.V (Kd.int .u8) 5 w' w.heap.size (fun k_ => (w.heap.size ≤ k_)) v0_ r1 ∧ Below w.heap.size w w' := by
 unfold lines_Join.f at h
 split at h
 ·rename_i hsm
  have hs := small_of_B hsm
  injection h with h
  obtain ⟨k, hk⟩ := (check_ev l0 hs).rounds
  by_cases he : linesErr l0 = 0
  ·rw [if_pos he] at h
   injection h with h1 h2
   subst h1
   subst h2
   rw [he] at hk
   have HK := Aside0.mk hk
   have HR := Aside0.mk hr0
   have HC := Aside0.mk hc0
   have HE := Aside0.mk he
   obtain ⟨g1, g2, g3, _⟩ := linesErr_zero he
   have HS := Aside0.mk (show (joined l0).size ≤ 9223372036854775807 by have := joined_size l0; omega)
   clear hk hr0 hc0 he hs hsm g1 g2 g3
   obtain ⟨s, es⟩ : ∃ s, s = joined l0 := ⟨_, rfl⟩
   have ES := Aside0.mk es
   clear es
   have kb := fun W => print_bytes (P := Try.prog) 9 48 5 Try.underlying9 Try.underlying48 Try.underlying5 s W
   go_enter Try.func25, Try.ntmps25
   go_wp2_with (first
    | (go_at_call 39; refine (lines_check.calls k A0 c0 l0 0 _ HR.out HC.out HK.out).mono ?_; rintro e w' ⟨rfl, ⟨q, rfl⟩⟩)
    | (go_at_call 40; refine (join_str A0 c0 l0 _ (Kd.C_drewN HR.out _) HC.out HE.out).mono ?_; rw [← ES.out]; rintro e w1 ⟨rfl, hb⟩; have HB := Aside0.mk hb; clear hb))
   go_ret2
   have hB0 := Below.size HB.out
   have hB : w.heap.size ≤ w1.heap.size := hB0
   refine ⟨_, rfl, ?_, ?_⟩
   ·rw [← ES.out]
    exact bytes_V w1 5 s (by rw [ES.out]; exact HS.out) _ (grownCap_ge _ _ _ _) hB
   ·exact bytes_below (below_then (pw_below_drewN (Below.refl w.heap.size w) q) (Nat.le_refl _) HB.out) hB 5 s
  ·rw [if_neg he] at h
   injection h with h1 h2
   subst h1
   obtain ⟨n, hn⟩ : ∃ n, n = linesErr l0 := ⟨_, rfl⟩
   rw [← hn] at hk he h2
   subst h2
   clear hn
   have HK := Aside0.mk hk
   have HR := Aside0.mk hr0
   have HC := Aside0.mk hc0
   clear hk hr0 hc0 hs hsm
   have he1 : (n == 0) = false := by simpa using he
   have he2 : (n != 0) = true := by simpa using he
   clear he
   go_enter Try.func25, Try.ntmps25
   go_wp2_with (go_at_call 39; refine (lines_check.calls k A0 c0 l0 n _ HR.out HC.out HK.out).mono ?_; rintro e w' ⟨rfl, ⟨q, rfl⟩⟩)
   go_ret2
   exact ⟨_, rfl, Kd.V_nil _ _ _ _ _, pw_below_drewN (Below.refl _ _) _⟩
 ·cases h
end Go.Proofs.Ytahpbpacjciddaa.Pr
end
