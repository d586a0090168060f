/- Part 16 of the proof of HunkDiffs: texts put together. -/
import Derived.Test.YtmgbbmjfjnhmiaaJHunkDiffs3
import Derived.Test.YtmgbbmjfjnhmiaaJHunkDiffs4
import Derived.Test.YtmgbbmjfjnhmiaaJHunkDiffs14
import Derived.Test.YtmgbbmjfjnhmiaaJHunkDiffs15
import Derived.RegionTactic
set_option linter.unusedVariables false
set_option linter.unusedSimpArgs false
section
namespace Go.Proofs.Ytmgbbmjfjnhmiaa.Pr
open Go.RowKit Go.Proofs.YtmgbbmjfjnhmiaaW.PrintWords Go.Proofs.YtmgbbmjfjnhmiaaW.PrintLast Go.Proofs.YtmgbbmjfjnhmiaaW.PrintMore
theorem fInfoL : (Try.prog.info? 41).map (fun i => (i.zero, i.size, i.bytes)) = some (some (.slice none 0 0), 1, 24) := by kernel_rfl
theorem fInfoM : (Try.prog.info? 45).map (fun i => (i.zero, i.size, i.bytes)) = some (some (.agg #[(.int .i64 0), (.int .i64 0)]), 2, 16) := by kernel_rfl
def Gm (a b : List ByteArray) (n k : Nat) : List S45 := (gOf a b (a.length + b.length) n k).map prOf
theorem gg (a b : List ByteArray) (n k : Nat) : Greedy a b n k (gOf a b (a.length + b.length) n k) := gOf_greedy a b _ n k (by omega)
theorem Gm_length (a b : List ByteArray) (n k : Nat) : (Gm a b n k).length ≤ a.length := by
  unfold Gm
  rw [List.length_map, (gg a b n k).length]
  exact Nat.le_trans (LL_mono a b (Nat.zero_le n) (Nat.zero_le k)) (lcsLen_le_left a b)
theorem Gm_left (a b : List ByteArray) (n k : Nat) (h : a.length ≤ n) : Gm a b n k = [] := by
  have hl := (gg a b n k).length
  rw [LL_end_left a b n k h] at hl
  unfold Gm
  rw [List.eq_nil_of_length_eq_zero hl]
  rfl
theorem Gm_right (a b : List ByteArray) (n k : Nat) (h : b.length ≤ k) : Gm a b n k = [] := by
  have hl := (gg a b n k).length
  rw [LL_end_right a b n k h] at hl
  unfold Gm
  rw [List.eq_nil_of_length_eq_zero hl]
  rfl
def rowG (a b : List ByteArray) (n m : Nat) : List (List S45) := (List.range (b.length + 1)).map fun j => if m ≤ j then Gm a b n j else []
theorem rowG_length (a b : List ByteArray) (n m : Nat) : (rowG a b n m).length = b.length + 1 := by simp [rowG]
theorem rowG_at (a b : List ByteArray) (n m j : Nat) (h : j ≤ b.length) : (rowG a b n m).getD j [] = if m ≤ j then Gm a b n j else [] := by
  have hl : j < (rowG a b n m).length := by rw [rowG_length]; omega
  rw [List.getD_eq_getElem?_getD, List.getElem?_eq_getElem hl]
  simp [rowG]
theorem rowG_none (a b : List ByteArray) (n m : Nat) (h : ∀ j, j ≤ b.length → m ≤ j → Gm a b n j = []) : rowG a b n m = List.replicate (b.length + 1) [] := by
  apply List.ext_getElem
  · rw [rowG_length, List.length_replicate]
  · intro j h1 h2
    rw [rowG_length] at h1
    simp only [rowG, List.getElem_map, List.getElem_range, List.getElem_replicate]
    split
    · rename_i hm
      exact h j (by omega) hm
    · rfl
theorem rowG_set (a b : List ByteArray) (n m : Nat) (x : List S45) (hx : x = Gm a b n m) : (rowG a b n (m + 1)).set m x = rowG a b n m := by
  apply List.ext_getElem
  · rw [List.length_set, rowG_length, rowG_length]
  · intro j h1 h2
    rw [List.getElem_set]
    simp only [rowG, List.getElem_map, List.getElem_range]
    by_cases h : m = j
    · subst h
      rw [if_pos rfl, if_pos (Nat.le_refl _), hx]
    · rw [if_neg h]
      by_cases h3 : m + 1 ≤ j
      · rw [if_pos h3, if_pos (by omega)]
      · rw [if_neg h3, if_neg (by omega)]
theorem rowG_set2 (l : List (List S45)) (m : Nat) (x y : List S45) : (l.set m x).set m y = l.set m y := by simp
theorem str_at {w : World} {A : Option Addr} {xs : List ByteArray} (h : Kd.C Kd.string w A xs.length xs) (i : Int) (h0 : 0 ≤ i) (h1 : i < (xs.length : Int)) :
    ∃ b o, A = some ⟨b, o, none⟩ ∧ b < w.heap.size ∧ w.cell? ⟨b, o + i.toNat, none⟩ = some (.string (rdOf ByteArray.empty xs i)) := by
  obtain ⟨b, o, rfl, hb, hc⟩ := C_strings h (by omega)
  refine ⟨b, o, rfl, hb, hc i.toNat _ ?_⟩
  have hl : i.toNat < xs.length := by omega
  simp [rdOf, hl]
theorem better_ex (m n : List (Nat × Nat)) (hm : m.length ≤ 1000000) (hn : n.length ≤ 1000000) : ∃ k, sidingref14_better.f k (m.map prOf) (n.map prOf) = some ((betterP m n).map prOf) := by
  apply Ev.rounds (g := fun k => sidingref14_better.f k (m.map prOf) (n.map prOf))
  unfold sidingref14_better.f
  rw [List.length_map, List.length_map]
  by_cases h1 : n.length > m.length
  · have e : betterP m n = n := by
      unfold betterP
      rw [if_pos h1]
    rw [e]
    exact Ev.pos (by omega) (Ev.now _)
  · refine Ev.neg (by omega) ?_
    by_cases h2 : n.length = m.length
    · refine Ev.pos (by omega) (Ev.bd (before_ev n m hn hm) ?_)
      by_cases h3 : before n m = true
      · have e : betterP m n = n := by
          unfold betterP
          rw [if_neg h1, if_pos ⟨h2, h3⟩]
        rw [e]
        exact Ev.pos h3 (Ev.now _)
      · have e : betterP m n = m := by
          unfold betterP
          rw [if_neg h1, if_neg (fun h => h3 h.2)]
        rw [e]
        exact Ev.neg h3 (Ev.now _)
    · have e : betterP m n = m := by
        unfold betterP
        rw [if_neg h1, if_neg (fun h => h2 h.1)]
      rw [e]
      exact Ev.neg (by omega) (Ev.now _)
def ref14_Found.f (l0 l1 : List ByteArray) : Option (List S45) := if (decide (l0.length ≤ 60) && decide (l1.length ≤ 60)) = true then some (Gm l0 l1 0 0) else none
theorem cell_keep {B : Nat} {w w1 : World} (hb : Below B w w1) {g i : Nat} {v : Value} (hg : g < B) (h : w.cell? ⟨g, i, none⟩ = some v) : w1.cell? ⟨g, i, none⟩ = some v := by
  rw [← h]
  simp only [World.cell?, hb.block g hg]
theorem V_re {α : Type} {d : Kd α} {e : Nat} {W : World} {b b' : Nat} {ok : Nat → Prop} {v : Value} {xs : List α} (h : Kd.V d e W b ok v xs) : Kd.V d e W b' ok v xs := h
abbrev Dm : Kd (List S45) := Kd.slice 45 k45
theorem rowget {W : World} {base b g n c : Nat} {ok : Nat → Prop} {ms : List (List S45)} (h : Kd.N Dm 41 W base ok (.slice (some ⟨g, 0, none⟩) n c) ms) (i : Nat) (hi : i < n) :
    ∃ A c, W.cell? ⟨g, i, none⟩ = some (.slice A (ms.getD i []).length c) ∧ Kd.V k45 45 W b (fun k => ok k ∧ k ≠ g) (.slice A (ms.getD i []).length c) (ms.getD i []) := by
  obtain ⟨cs, hl, hK, hc, _⟩ := Kd.N_elem h [] (i : Int) (by omega) (by omega)
  rw [Int.toNat_natCast] at hK hc
  obtain ⟨A, c', rfl, hle, hF⟩ := Kd.FK_slice_open hK
  have := hc 0 _ rfl
  simp only [show Dm.sz = 1 from rfl, Nat.mul_one, Nat.add_zero] at this
  exact ⟨A, c', this, Kd.V_mk hle hF⟩
theorem rowset {W : World} {base b g n c : Nat} {ok P : Nat → Prop} {ms : List (List S45)} (h : Kd.N Dm 41 W base ok (.slice (some ⟨g, 0, none⟩) n c) ms) (i : Nat) (hi : i < n) {v : Value} {x : List S45} (hv : Kd.V k45 45 W b P v x) (hP : ∀ k, P k → ok k ∧ k ≠ g) :
    Kd.N Dm 41 (W.setCell ⟨g, i, none⟩ v) base ok (.slice (some ⟨g, 0, none⟩) n c) (ms.set i x) ∧ W.grownBy (W.setCell ⟨g, i, none⟩ v) (some g) := by
  obtain ⟨cs, hl, hK, hc, _⟩ := Kd.N_elem h [] (i : Int) (by omega) (by omega)
  obtain ⟨A, c', rfl, hle, hF⟩ := hv
  obtain ⟨A0, c0, rfl, _, _⟩ := Kd.FK_slice_open hK
  have h2 := Kd.N_seg h (i : Int) (by omega) (by omega) (c := [.slice A0 _ c0]) (seg := [.slice A x.length c']) (j := 0) (x' := x) hl hc (Nat.le_refl 1) (Kd.FK_slice_mk hle hF) hP
  rw [Int.toNat_natCast] at h2
  simp only [show Dm.sz = 1 from rfl, Nat.mul_one, Nat.add_zero] at h2
  exact h2
theorem row_frozen {W : World} {base g n c : Nat} {ok : Nat → Prop} {ms : List (List S45)} (h : Kd.N Dm 41 W base ok (.slice (some ⟨g, 0, none⟩) n c) ms) (i : Nat) : W.frozen? ⟨g, i, none⟩ = false := by
  obtain ⟨cs, h⟩ := Kd.N_typed h g (by simp [Value.ownBlock])
  exact blk_frozen h i
set_option maxHeartbeats 8000000 in
set_option maxRecDepth 100000 in
theorem ref14_Found.calls (A0 : Option Addr) (c0 : Nat) (l0 : List ByteArray) (A1 : Option Addr) (c1 : Nat) (l1 : List ByteArray) (r : List S45) (w : World) (hr0 : Kd.C Kd.string w A0 l0.length l0) (hc0 : l0.length ≤ c0) (hr1 : Kd.C Kd.string w A1 l1.length l1) (hc1 : l1.length ≤ c1) (h : ref14_Found.f l0 l1 = some r) :
  Calls Try.prog 29 #[.slice A0 l0.length c0, .slice A1 l1.length c1] w fun e w' => ∃ v0_ : Value, e = .returned (v0_) ∧ Kd.V k45 45 w' w.heap.size (fun k_ => w.heap.size ≤ k_) v0_ r ∧ Below w.heap.size w w' := by
 unfold ref14_Found.f at h
 split at h
 ·rename_i hsm
  simp only [Bool.and_eq_true, decide_eq_true_eq] at hsm
  obtain ⟨hl0, hl1⟩ := hsm
  obtain rfl : Gm l0 l1 0 0 = r := by injection h
  clear h
  have HR0 := Aside0.mk hr0
  have HR1 := Aside0.mk hr1
  have HC0 := Aside0.mk hc0
  have HC1 := Aside0.mk hc1
  clear hr0 hr1 hc0 hc1
  obtain ⟨nn, hnn⟩ : ∃ nn, nn = l1.length + 1 := ⟨_, rfl⟩
  have HNN := Aside0.mk hnn
  have hn0 : (0 : Int) ≤ (nn : Int) := by omega
  have hn1 : (nn : Int) ≤ 100 := by omega
  have hnp : 0 < nn := by omega
  clear hnn
  go_enter Try.func29, Try.ntmps29
  go_wp2_with ((with_reducible refine gate_dst (N := 12) rfl ?_); refine Kd.N_make Dm (w0 := w) w.heap.size 41 rfl (N' := 12) rfl 66 _ _ rfl ((l1.length : Int) + 1) rfl rfl Try.underlying66 (.slice none 0 0) 24 fInfoL rfl (by decide) (by omega) [] (ok := fun k_ => w.heap.size ≤ k_) (okp := fun _ => False) (Kd.FK_slice_mk (Nat.le_refl 0) (Kd.F_nil _ _ _)) (fun _ hk => hk.elim) (Nat.le_refl _) (by omega) (by omega) (Below.refl _ _) (Nat.le_refl _) ?_; intro v5 w1 hN hb hg hat; have HN5 := Aside0.mk hN; have HB1 := Aside0.mk hb; have HG1 := Aside0.mk hg; have HAT1 := Aside0.mk hat; clear hN hb hg hat)
  have er : List.replicate ((l1.length : Int) + 1).toNat ([] : List S45) = rowG l0 l1 l0.length 0 := by
   rw [rowG_none l0 l1 _ _ (fun j _ _ => Gm_left l0 l1 _ _ (Nat.le_refl _))]
   congr 1
  have hN := HN5.out
  rw [er] at hN
  clear er HN5 HAT1 HG1
  obtain ⟨g5a, c5a, rfl, _⟩ := Kd.N_form hN (by rw [rowG_length]; omega)
  rw [rowG_length, ← HNN.out] at hN ⊢
  have HN5 := Aside0.mk hN
  clear hN
  go_loopg [5, 6] l0.length (fun gg s5 s6 wr => ∃ (n g5 c5 : Nat), n ≤ l0.length ∧ n ≤ gg ∧ s5 = .slice (some ⟨g5, 0, none⟩) nn c5 ∧ s6 = .int .i64 ((n : Int) - 1) ∧ Aside0 (Kd.N Dm 41 wr w.heap.size (fun k_ => w.heap.size ≤ k_) (.slice (some ⟨g5, 0, none⟩) nn c5) (rowG l0 l1 n 0)) ∧ Aside0 (Below w.heap.size w wr))
  case atStart => exact ⟨l0.length, g5a, c5a, Nat.le_refl _, Nat.le_refl _, rfl, rfl, HN5, HB1⟩
  case round =>
   clear HN5 HB1
   obtain ⟨n, g5, c5, hn, hgg, rfl, rfl, HN5, HB⟩ := hrel
   by_cases hn0' : n = 0
   ·subst hn0'
    obtain ⟨A9, c9, hc9, hv9⟩ := rowget (b := w.heap.size) HN5.out 0 (by omega)
    rw [rowG_at _ _ _ _ _ (by omega), if_pos (Nat.le_refl 0)] at hc9 hv9
    have hc9' : wr.cell? ⟨g5, 0, none⟩ = some (.slice A9 (Gm l0 l1 0 0).length c9) := hc9
    have HV9 := Aside0.mk hv9
    clear hv9 hc9
    have hp : (0 : Int) < (nn : Int) := by omega
    go_wp2
    go_ret
    exact ⟨_, rfl, Kd.V_mono HV9.out (fun k_ hk => hk.1), HB.out⟩
   ·obtain ⟨ii, rfl⟩ : ∃ ii, n = ii + 1 := ⟨n - 1, by omega⟩
    have e6 : (((ii + 1 : Nat) : Int) - 1) = (ii : Int) := by omega
    rw [e6]
    clear e6 hn0'
    have hiz : (0 : Int) ≤ (ii : Int) := by omega
    go_wp2_with ((with_reducible refine gate_dst (N := 23) rfl ?_); refine Kd.N_make Dm (w0 := w) w.heap.size 41 rfl (N' := 23) rfl 66 _ _ rfl ((l1.length : Int) + 1) rfl rfl Try.underlying66 (.slice none 0 0) 24 fInfoL rfl (by decide) (by omega) [] (ok := fun k_ => w.heap.size ≤ k_) (okp := fun _ => False) (Kd.FK_slice_mk (Nat.le_refl 0) (Kd.F_nil _ _ _)) (fun _ hk => hk.elim) (Below.size HB.out) (by omega) (by omega) HB.out (Below.size HB.out) ?_; intro v7 w2 hN hb hg hat; have HN7 := Aside0.mk hN; have HB2 := Aside0.mk hb; have HG2 := Aside0.mk hg; have HAT2 := Aside0.mk hat; clear hN hb hg hat)
    have er : List.replicate ((l1.length : Int) + 1).toNat ([] : List S45) = rowG l0 l1 ii l1.length := by
     rw [rowG_none l0 l1 _ _ (fun j _ h => Gm_right l0 l1 _ _ h)]
     congr 1
    have hN := HN7.out
    rw [er] at hN
    clear er HN7
    obtain ⟨g7, c7, rfl, _⟩ := Kd.N_form hN (by rw [rowG_length]; omega)
    rw [rowG_length, ← HNN.out] at hN ⊢
    have HN7 := Aside0.mk hN
    clear hN
    have hg7 : wr.heap.size ≤ g7 := by
     obtain ⟨b, hb1, hb2⟩ := HAT2.out
     simp [Value.ownBlock] at hb1
     omega
    have HN5b : Aside0 (Kd.N Dm 41 w2 w.heap.size (fun k_ => w.heap.size ≤ k_ ∧ k_ ≠ g7) (.slice (some ⟨g5, 0, none⟩) nn c5) (rowG l0 l1 (ii + 1) 0)) := ⟨Kd.N_mono (Kd.N_grown (Kd.N_bound HN5.out) HG2.out (fun _ _ => by simp)) (fun k_ hk => ⟨hk.1, by have := hk.2; omega⟩)⟩
    clear HG2 HAT2 hg7 HN5
    go_wp2
    go_loopg [8] l1.length (fun gg2 s8 wr2 => ∃ (m : Nat), m ≤ l1.length ∧ m ≤ gg2 ∧ s8 = .int .i64 ((m : Int) - 1) ∧ Aside0 (Kd.N Dm 41 wr2 w.heap.size (fun k_ => w.heap.size ≤ k_ ∧ k_ ≠ g7) (.slice (some ⟨g5, 0, none⟩) nn c5) (rowG l0 l1 (ii + 1) 0)) ∧ Aside0 (Kd.N Dm 41 wr2 w.heap.size (fun k_ => w.heap.size ≤ k_) (.slice (some ⟨g7, 0, none⟩) nn c7) (rowG l0 l1 ii m)) ∧ Aside0 (Below w.heap.size w wr2))
    case atStart => exact ⟨l1.length, Nat.le_refl _, Nat.le_refl _, rfl, HN5b, HN7, HB2⟩
    case round =>
     clear HN5b HN7 HB2 HB
     obtain ⟨m, hm, hgm, rfl, HN5, HN7, HB⟩ := hrel
     by_cases hm0 : m = 0
     ·subst hm0
      go_wp2
      go_roundg ii
      case measure => omega
      case rel => exact ⟨ii, g7, c7, by omega, Nat.le_refl _, rfl, (by first | rfl | (simp; done)), HN7, HB⟩
     ·obtain ⟨kk, rfl⟩ : ∃ kk, m = kk + 1 := ⟨m - 1, by omega⟩
      have e6 : (((kk + 1 : Nat) : Int) - 1) = (kk : Int) := by omega
      rw [e6]
      clear e6 hm0
      have hkz : (0 : Int) ≤ (kk : Int) := by omega
      have hkn : kk + 1 < nn := by have := HNN.out; omega
      have hknz : (kk : Int) + 1 < (nn : Int) := by omega
      have hknz2 : (kk : Int) < (nn : Int) := by omega
      have HWK := Aside0.mk (show wrap64 ((kk : Int) + 1) = (kk : Int) + 1 from w64 (by omega))
      have hk1 : (0 : Int) ≤ (kk : Int) + 1 := by omega
      have hkt : ((kk : Int) + 1).toNat = kk + 1 := by omega
      obtain ⟨AA1, ca1, hC1, hV1⟩ := rowget (b := w.heap.size) HN5.out kk (by omega)
      rw [rowG_at _ _ _ _ _ (by omega), if_pos (Nat.zero_le _)] at hC1 hV1
      obtain ⟨AA2, ca2, hC2, hV2⟩ := rowget (b := w.heap.size) HN7.out (kk + 1) hkn
      rw [rowG_at _ _ _ _ _ (by omega), if_pos (Nat.le_refl _)] at hC2 hV2
      obtain ⟨kb1, hkb1⟩ := better_ex (gOf l0 l1 (l0.length + l1.length) (ii + 1) kk) (gOf l0 l1 (l0.length + l1.length) ii (kk + 1)) (by have := Gm_length l0 l1 (ii + 1) kk; unfold Gm at this; rw [List.length_map] at this; omega) (by have := Gm_length l0 l1 ii (kk + 1); unfold Gm at this; rw [List.length_map] at this; omega)
      obtain ⟨x1, hx1⟩ : ∃ x, x = Gm l0 l1 (ii + 1) kk := ⟨_, rfl⟩
      obtain ⟨x2, hx2⟩ : ∃ x, x = Gm l0 l1 ii (kk + 1) := ⟨_, rfl⟩
      obtain ⟨y1, hy1⟩ : ∃ x, x = (betterP (gOf l0 l1 (l0.length + l1.length) (ii + 1) kk) (gOf l0 l1 (l0.length + l1.length) ii (kk + 1))).map prOf := ⟨_, rfl⟩
      change sidingref14_better.f kb1 (Gm l0 l1 (ii + 1) kk) (Gm l0 l1 ii (kk + 1)) = _ at hkb1
      rw [← hx1] at hC1 hV1
      rw [← hx2] at hC2 hV2
      rw [← hx1, ← hx2, ← hy1] at hkb1
      have C1 := Aside0.mk hC1
      have V1 := Aside0.mk hV1
      have C2 := Aside0.mk hC2
      have V2 := Aside0.mk hV2
      have KB1 := Aside0.mk hkb1
      have X1 := Aside0.mk hx1
      have X2 := Aside0.mk hx2
      have Y1 := Aside0.mk hy1
      have L5 := Aside0.mk (cell_lt hC1).2
      have L7 := Aside0.mk (cell_lt hC2).2
      clear hC1 hV1 hC2 hV2 hkb1 hx1 hx2 hy1
      go_wp2
      refine start_ (n := 14) (S := fun w' => w'.cell? ⟨g5, kk, none⟩ = some (.slice AA1 x1.length ca1) ∧ w'.cell? ⟨g7, kk + 1, none⟩ = some (.slice AA2 x2.length ca2)) (ds := [13]) #[false, false, false, false, false, false, false, false, false, false, false, false, false, false] (by kernel_rfl) rfl rfl ⟨C1.out, C2.out⟩ (fun hHeld => ?_)
      refine pure_ (i := 0) (N := some 31) (v := ?_) (a' := ?_) #[true, false, false, false, false, false, false, false, false, false, false, false, false, false] rfl rfl (by kernel_rfl) (fun _ _ _ h => h) (Or.inl ⟨by rfl, ?_⟩) ?_ ?_
      rotate_left
      ·intro w'
       go_simp
       with_reducible rfl
      rotate_left
      ·simp only [Act.put, List.setIfInBounds_toArray, List.set_cons_zero, List.set_cons_succ, i64_w, i32_w, HWK.out]
       rfl
      refine pure_ (i := 1) (N := some 32) (v := ?_) (a' := ?_) #[true, true, false, false, false, false, false, false, false, false, false, false, false, false] rfl rfl (by kernel_rfl) (fun _ _ _ h => h) (Or.inl ⟨by rfl, ?_⟩) ?_ ?_
      rotate_left
      ·intro w'
       go_simp
       with_reducible rfl
      rotate_left
      ·simp only [Act.put, List.setIfInBounds_toArray, List.set_cons_zero, List.set_cons_succ, i64_w, i32_w, HWK.out]
       rfl
      refine pure_ (i := 2) (N := some 33) (v := ?_) (a' := ?_) #[true, true, true, false, false, false, false, false, false, false, false, false, false, false] rfl rfl (by kernel_rfl) (fun _ _ _ h => h) (Or.inl ⟨by rfl, ?_⟩) ?_ ?_
      rotate_left
      ·intro w'
       go_simp
       with_reducible rfl
      rotate_left
      ·simp only [Act.put, List.setIfInBounds_toArray, List.set_cons_zero, List.set_cons_succ, i64_w, i32_w, HWK.out]
       rfl
      refine pure_ (i := 3) (N := some 34) (v := ?_) (a' := ?_) #[true, true, true, true, false, false, false, false, false, false, false, false, false, false] rfl rfl (by kernel_rfl) (fun _ _ _ h => h) (Or.inl ⟨by rfl, ?_⟩) ?_ ?_
      rotate_left
      ·intro w'
       go_simp
       with_reducible rfl
      rotate_left
      ·simp only [Act.put, List.setIfInBounds_toArray, List.set_cons_zero, List.set_cons_succ, i64_w, i32_w, HWK.out]
       rfl
      refine pure_ (i := 4) (N := some 35) (v := ?_) (a' := ?_) #[true, true, true, true, true, false, false, false, false, false, false, false, false, false] rfl rfl (by kernel_rfl) (fun _ _ _ h => h) (Or.inl ⟨by rfl, ?_⟩) ?_ ?_
      rotate_left
      ·intro w'
       go_simp
       with_reducible rfl
      rotate_left
      ·simp only [Act.put, List.setIfInBounds_toArray, List.set_cons_zero, List.set_cons_succ, i64_w, i32_w, HWK.out]
       rfl
      refine pure_ (i := 6) (N := some 37) (v := ?_) (a' := ?_) #[true, true, true, true, true, false, true, false, false, false, false, false, false, false] rfl rfl (by kernel_rfl) (fun _ _ _ h => h) (Or.inl ⟨by rfl, ?_⟩) ?_ ?_
      rotate_left
      ·intro w'
       go_simp
       with_reducible rfl
      rotate_left
      ·simp only [Act.put, List.setIfInBounds_toArray, List.set_cons_zero, List.set_cons_succ, i64_w, i32_w, HWK.out]
       rfl
      refine pure_ (i := 7) (N := some 38) (v := ?_) (a' := ?_) #[true, true, true, true, true, false, true, true, false, false, false, false, false, false] rfl rfl (by kernel_rfl) (fun _ _ _ h => h) (Or.inl ⟨by rfl, ?_⟩) ?_ ?_
      rotate_left
      ·intro w'
       go_simp
       with_reducible rfl
      rotate_left
      ·simp only [Act.put, List.setIfInBounds_toArray, List.set_cons_zero, List.set_cons_succ, i64_w, i32_w, HWK.out]
       rfl
      refine pure_ (i := 8) (N := some 39) (v := ?_) (a' := ?_) #[true, true, true, true, true, false, true, true, true, false, false, false, false, false] rfl rfl (by kernel_rfl) (fun _ _ _ h => h) (Or.inl ⟨by rfl, ?_⟩) ?_ ?_
      rotate_left
      ·intro w'
       go_simp
       with_reducible rfl
      rotate_left
      ·simp only [Act.put, List.setIfInBounds_toArray, List.set_cons_zero, List.set_cons_succ, i64_w, i32_w, HWK.out]
       rfl
      refine pure_ (i := 9) (N := some 40) (v := ?_) (a' := ?_) #[true, true, true, true, true, false, true, true, true, true, false, false, false, false] rfl rfl (by kernel_rfl) (fun _ _ _ h => h) (Or.inl ⟨by rfl, ?_⟩) ?_ ?_
      rotate_left
      ·intro w'
       go_simp
       with_reducible rfl
      rotate_left
      ·simp only [Act.put, List.setIfInBounds_toArray, List.set_cons_zero, List.set_cons_succ, i64_w, i32_w, HWK.out]
       rfl
      refine take_ (i := 5) (N := some 36) (v := ?_) (a' := ?_) #[true, true, true, true, true, true, true, true, true, true, false, false, false, false] rfl rfl (by kernel_rfl) (fun _ _ _ h => h) (Or.inl ⟨by rfl, ?_⟩) hHeld ?_ ?_
      rotate_left
      ·rintro w' ⟨s0, s1⟩
       go_simp
       with_reducible rfl
      rotate_left
      ·simp only [Act.put, List.setIfInBounds_toArray, List.set_cons_zero, List.set_cons_succ, i64_w, i32_w, HWK.out]
       rfl
      refine take_ (i := 10) (N := some 41) (v := ?_) (a' := ?_) #[true, true, true, true, true, true, true, true, true, true, true, false, false, false] rfl rfl (by kernel_rfl) (fun _ _ _ h => h) (Or.inl ⟨by rfl, ?_⟩) hHeld ?_ ?_
      rotate_left
      ·rintro w' ⟨s0, s1⟩
       go_simp
       with_reducible rfl
      rotate_left
      ·simp only [Act.put, List.setIfInBounds_toArray, List.set_cons_zero, List.set_cons_succ, i64_w, i32_w, HWK.out]
       rfl
      refine one_ (i := 11) (N := some 42) #[true, true, true, true, true, true, true, true, true, true, true, true, false, false] rfl rfl (by kernel_rfl) (by decide) (fun K hK => ?_)
      refine goes_ Try.func37 (by kernel_rfl) rfl #[.slice AA1 x1.length ca1, .slice AA2 x2.length ca2] (by rfl) rfl rfl (by simp only [List.map_toArray, List.map_cons, List.map_nil]; rfl) ?_
      with_reducible refine (sidingref14_better.calls kb1 _ AA1 ca1 x1 _ AA2 ca2 x2 y1 _ (V_re (Kd.V_drew V1.out)) (V_re (Kd.V_drew V2.out)) KB1.out).mono ?_
      rintro e w2 ⟨v42, rfl, hv42, hb2⟩
      refine ⟨_, rfl, ?_⟩
      obtain ⟨B42, cb42, rfl⟩ := Kd.V_slice hv42
      have V42 := Aside0.mk hv42
      have HB2 := Aside0.mk hb2
      clear hv42 hb2
      refine hK.out _ _ ⟨(cell_keep HB2.out (by exact L5.out) hHeld.1), (cell_keep HB2.out (by exact L7.out) hHeld.2)⟩ (fun hHeld => ?_)
      clear hK K
      refine norm_ (a' := ?_) ?_ ?_
      rotate_left
      ·show Act.put _ (some 42) _ = _
       simp only [Act.put, List.setIfInBounds_toArray, List.set_cons_zero, List.set_cons_succ, i64_w, i32_w, HWK.out]
       rfl
      refine pure_ (i := 12) (N := some 43) (v := ?_) (a' := ?_) #[true, true, true, true, true, true, true, true, true, true, true, true, true, false] rfl rfl (by kernel_rfl) (fun _ _ _ h => h) (Or.inl ⟨by rfl, ?_⟩) ?_ ?_
      rotate_left
      ·intro w'
       go_simp
       with_reducible rfl
      rotate_left
      ·simp only [Act.put, List.setIfInBounds_toArray, List.set_cons_zero, List.set_cons_succ, i64_w, i32_w, HWK.out]
       rfl
      refine last_ (i := 13) (N := none) #[true, true, true, true, true, true, true, true, true, true, true, true, true, true] rfl rfl (by kernel_rfl) (by decide) (fun K hK => ?_)
      have hf7 := row_frozen (Kd.N_below (Kd.N_drew HN7.out) HB2.out) kk
      obtain ⟨AAo, cao, hco, _⟩ := rowget (b := w.heap.size) (Kd.N_below (Kd.N_drew HN7.out) HB2.out) kk (by omega)
      refine skip_ (w1 := ?_) (by rfl) rfl ?_ ?_
      rotate_left
      ·go_simp
       rfl
      refine hK.out _ _ ?_
      clear hK K
      refine done_ (by kernel_rfl) ?_
      have hN7 := rowset (Kd.N_below (Kd.N_drew HN7.out) HB2.out) kk (by omega) V42.out (fun k_ hk => by
       have hs := Below.size HB.out
       have hs7 : g7 < wr.heap.size := L7.out
       have hd : wr.drew.heap.size = wr.heap.size := rfl
       rcases hk with (hk | hk) | hk
       ·exact ⟨hk.1.1, hk.1.2⟩
       ·exact ⟨hk.1, hk.2⟩
       ·exact ⟨by omega, by omega⟩)
      have HN5b := Aside0.mk (Kd.N_grown (Kd.N_below (Kd.N_drew HN5.out) HB2.out) hN7.2 (fun k_ hk he => hk.2 (by injection he)))
      have HN7b := Aside0.mk hN7.1
      have HBb := Aside0.mk (below_set (below_then (show Below w.heap.size w wr.drew from below_drew HB.out) (show w.heap.size ≤ wr.heap.size from Below.size HB.out) HB2.out) (show w.heap.size ≤ g7 by have := Kd.N_base HN7.out g7 (by simp [Value.ownBlock]); exact this) (j := kk) (v := .slice B42 y1.length cb42))
      obtain ⟨w3, hw3⟩ : ∃ x, x = w2.setCell ⟨g7, kk, none⟩ (.slice B42 y1.length cb42) := ⟨_, rfl⟩
      rw [← hw3] at HN5b HN7b HBb ⊢
      have hs3 : w3.heap.size = w2.heap.size := by rw [hw3]; simp [World.setCell]
      have hsz2 : wr.drew.heap.size ≤ w2.heap.size := Below.size HB2.out
      have L5b := Aside0.mk (show g5 < w3.heap.size by rw [hs3]; exact Nat.lt_of_lt_of_le L5.out hsz2)
      have L7b := Aside0.mk (show g7 < w3.heap.size by rw [hs3]; exact Nat.lt_of_lt_of_le L7.out hsz2)
      clear hs3 hsz2 hw3 hN7 HN5 HN7 HB HB2 V42 C1 C2 V1 V2 L5 L7 KB1
      have L5 := L5b
      have L7 := L7b
      clear L5b L7b
      have hii : (ii : Int) < (l0.length : Int) := by omega
      have hkl : (kk : Int) < (l1.length : Int) := by omega
      obtain ⟨ab, ao, rfl, hab, hca⟩ := str_at (Kd.C_below HR0.out HBb.out) (ii : Int) hiz hii
      obtain ⟨bb, bo, rfl, hbb, hcb⟩ := str_at (Kd.C_below HR1.out HBb.out) (kk : Int) hkz hkl
      rw [rdOf_at _ _ ii (by omega), Int.toNat_natCast] at hca
      rw [rdOf_at _ _ kk (by omega), Int.toNat_natCast] at hcb
      obtain ⟨sa, hsa⟩ : ∃ s, s = l0[ii]'(by omega) := ⟨_, rfl⟩
      obtain ⟨sb, hsb⟩ : ∃ s, s = l1[kk]'(by omega) := ⟨_, rfl⟩
      rw [← hsa] at hca
      rw [← hsb] at hcb
      have hstep : Gm l0 l1 ii kk = if sa = sb then (betterP (betterP (gOf l0 l1 (l0.length + l1.length) (ii + 1) kk) (gOf l0 l1 (l0.length + l1.length) ii (kk + 1))) ((ii, kk) :: gOf l0 l1 (l0.length + l1.length) (ii + 1) (kk + 1))).map prOf else y1 := by
       have hg := Greedy.uniq (gg l0 l1 ii kk) (Greedy.step_all (by omega) (by omega) (gg l0 l1 (ii + 1) kk) (gg l0 l1 ii (kk + 1)) (gg l0 l1 (ii + 1) (kk + 1)))
       unfold Gm
       rw [hg, hsa, hsb, Y1.out]
       split <;> rfl
      have HST := Aside0.mk hstep
      clear hstep hsa hsb
      by_cases heq : sa = sb
      ·have h7 : (sa.toList == sb.toList) = true := by rw [heq]; simp
       have HEQ := Aside0.mk heq
       clear heq
       obtain ⟨A3, c3, hC3, hV3⟩ := rowget (b := w.heap.size) HN7b.out kk (by omega)
       have ey : ((rowG l0 l1 ii (kk + 1)).set kk y1).getD kk [] = y1 := by
        have hl : kk < ((rowG l0 l1 ii (kk + 1)).set kk y1).length := by rw [List.length_set, rowG_length]; omega
        rw [List.getD_eq_getElem?_getD, List.getElem?_eq_getElem hl]
        simp
       rw [ey] at hC3 hV3
       clear ey
       obtain ⟨A4, c4, hC4, hV4⟩ := rowget (b := w.heap.size) HN5b.out (kk + 1) hkn
       rw [rowG_at _ _ _ _ _ (by omega), if_pos (Nat.zero_le _)] at hC4 hV4
       obtain ⟨kb2, hkb2⟩ := better_ex (betterP (gOf l0 l1 (l0.length + l1.length) (ii + 1) kk) (gOf l0 l1 (l0.length + l1.length) ii (kk + 1))) ((ii, kk) :: gOf l0 l1 (l0.length + l1.length) (ii + 1) (kk + 1)) (by
        have h1 := Gm_length l0 l1 (ii + 1) kk
        have h2 := Gm_length l0 l1 ii (kk + 1)
        unfold Gm at h1 h2
        rw [List.length_map] at h1 h2
        unfold betterP
        split
        ·omega
        ·split <;> omega) (by have := Gm_length l0 l1 (ii + 1) (kk + 1); unfold Gm at this; rw [List.length_map] at this; rw [List.length_cons]; omega)
       have hx4l := Gm_length l0 l1 (ii + 1) (kk + 1)
       obtain ⟨x4, hx4⟩ : ∃ x, x = Gm l0 l1 (ii + 1) (kk + 1) := ⟨_, rfl⟩
       obtain ⟨y2, hy2⟩ : ∃ x, x = (betterP (betterP (gOf l0 l1 (l0.length + l1.length) (ii + 1) kk) (gOf l0 l1 (l0.length + l1.length) ii (kk + 1))) ((ii, kk) :: gOf l0 l1 (l0.length + l1.length) (ii + 1) (kk + 1))).map prOf := ⟨_, rfl⟩
       have hkb2' : sidingref14_better.f kb2 y1 ([⟨(ii : Int), (kk : Int)⟩] ++ x4) = some y2 := by
        rw [hx4, hy2, Y1.out, ← hkb2]
        rfl
       rw [← hx4] at hC4 hV4 hx4l
       have C3 := Aside0.mk hC3
       have V3 := Aside0.mk hV3
       have C4 := Aside0.mk hC4
       have V4 := Aside0.mk hV4
       have N4 := Aside0.mk (show x4.length ≤ 60 by omega)
       have KB2 := Aside0.mk hkb2'
       have HRW := Aside0.mk ((HST.out.trans (if_pos HEQ.out)).trans hy2.symm)
       clear hC3 hV3 hC4 hV4 hkb2 hkb2' hx4 hy2 hx4l HST
       go_wp2
       go_quiet (fail)
       go_wp2
       obtain ⟨W3, hW3⟩ : ∃ x, x = w3.drewN nq := ⟨_, rfl⟩
       rw [← hW3]
       have n1 := Aside0.mk (show W3.cell? ⟨g7, kk, none⟩ = some (.slice A3 y1.length c3) by rw [hW3]; exact C3.out)
       have n2 := Aside0.mk (show W3.cell? ⟨g5, kk + 1, none⟩ = some (.slice A4 x4.length c4) by rw [hW3]; exact C4.out)
       have n3 := Aside0.mk (show g5 < W3.heap.size by rw [hW3]; exact L5.out)
       have n4 := Aside0.mk (show g7 < W3.heap.size by rw [hW3]; exact L7.out)
       have n5 := Kd.V_drewN V3.out nq
       have n6 := Kd.V_drewN V4.out nq
       have n7 := Kd.N_drewN HN5b.out nq
       have n8 := Kd.N_drewN HN7b.out nq
       have n9 := pw_below_drewN HBb.out nq
       rw [← hW3] at n5 n6 n7 n8 n9
       clear hW3 C3 C4 L5 L7 V3 V4 HN5b HN7b HBb hca hcb hab hbb
       have C3 := n1
       have C4 := n2
       have L5 := n3
       have L7 := n4
       have V3 := Aside0.mk n5
       have V4 := Aside0.mk n6
       have HN5b := Aside0.mk n7
       have HN7b := Aside0.mk n8
       have HBb := Aside0.mk n9
       clear n1 n2 n3 n4 n5 n6 n7 n8 n9
       refine start_ (n := 19) (S := fun w' => w'.cell? ⟨g7, kk, none⟩ = some (.slice A3 y1.length c3) ∧ w'.cell? ⟨g5, kk + 1, none⟩ = some (.slice A4 x4.length c4)) (ds := [18]) #[false, false, false, false, false, false, false, false, false, false, false, false, false, false, false, false, false, false, false] (by kernel_rfl) rfl rfl ⟨C3.out, C4.out⟩ (fun hHeld => ?_)
       refine pure_ (i := 0) (N := some 53) (v := ?_) (a' := ?_) #[true, false, false, false, false, false, false, false, false, false, false, false, false, false, false, false, false, false, false] rfl rfl (by kernel_rfl) (fun _ _ _ h => h) (Or.inl ⟨by rfl, ?_⟩) ?_ ?_
       rotate_left
       ·intro w'
        go_simp
        with_reducible rfl
       rotate_left
       ·simp only [Act.put, List.setIfInBounds_toArray, List.set_cons_zero, List.set_cons_succ, i64_w, i32_w, HWK.out]
        rfl
       refine pure_ (i := 1) (N := some 54) (v := ?_) (a' := ?_) #[true, true, false, false, false, false, false, false, false, false, false, false, false, false, false, false, false, false, false] rfl rfl (by kernel_rfl) (fun _ _ _ h => h) (Or.inl ⟨by rfl, ?_⟩) ?_ ?_
       rotate_left
       ·intro w'
        go_simp
        with_reducible rfl
       rotate_left
       ·simp only [Act.put, List.setIfInBounds_toArray, List.set_cons_zero, List.set_cons_succ, i64_w, i32_w, HWK.out]
        rfl
       refine pure_ (i := 2) (N := some 55) (v := ?_) (a' := ?_) #[true, true, true, false, false, false, false, false, false, false, false, false, false, false, false, false, false, false, false] rfl rfl (by kernel_rfl) (fun _ _ _ h => h) (Or.inl ⟨by rfl, ?_⟩) ?_ ?_
       rotate_left
       ·intro w'
        go_simp
        with_reducible rfl
       rotate_left
       ·simp only [Act.put, List.setIfInBounds_toArray, List.set_cons_zero, List.set_cons_succ, i64_w, i32_w, HWK.out]
        rfl
       refine pure_ (i := 3) (N := some 56) (v := ?_) (a' := ?_) #[true, true, true, true, false, false, false, false, false, false, false, false, false, false, false, false, false, false, false] rfl rfl (by kernel_rfl) (fun _ _ _ h => h) (Or.inl ⟨by rfl, ?_⟩) ?_ ?_
       rotate_left
       ·intro w'
        go_simp
        with_reducible rfl
       rotate_left
       ·simp only [Act.put, List.setIfInBounds_toArray, List.set_cons_zero, List.set_cons_succ, i64_w, i32_w, HWK.out]
        rfl
       refine pure_ (i := 4) (N := some 57) (v := ?_) (a' := ?_) #[true, true, true, true, true, false, false, false, false, false, false, false, false, false, false, false, false, false, false] rfl rfl (by kernel_rfl) (fun _ _ _ h => h) (Or.inl ⟨by rfl, ?_⟩) ?_ ?_
       rotate_left
       ·intro w'
        go_simp
        with_reducible rfl
       rotate_left
       ·simp only [Act.put, List.setIfInBounds_toArray, List.set_cons_zero, List.set_cons_succ, i64_w, i32_w, HWK.out]
        rfl
       refine pure_ (i := 6) (N := some 59) (v := ?_) (a' := ?_) #[true, true, true, true, true, false, true, false, false, false, false, false, false, false, false, false, false, false, false] rfl rfl (by kernel_rfl) (fun _ _ _ h => h) (Or.inl ⟨by rfl, ?_⟩) ?_ ?_
       rotate_left
       ·intro w'
        go_simp
        with_reducible rfl
       rotate_left
       ·simp only [Act.put, List.setIfInBounds_toArray, List.set_cons_zero, List.set_cons_succ, i64_w, i32_w, HWK.out]
        rfl
       refine pure_ (i := 7) (N := some 60) (v := ?_) (a' := ?_) #[true, true, true, true, true, false, true, true, false, false, false, false, false, false, false, false, false, false, false] rfl rfl (by kernel_rfl) (fun _ _ _ h => h) (Or.inl ⟨by rfl, ?_⟩) ?_ ?_
       rotate_left
       ·intro w'
        go_simp
        with_reducible rfl
       rotate_left
       ·simp only [Act.put, List.setIfInBounds_toArray, List.set_cons_zero, List.set_cons_succ, i64_w, i32_w, HWK.out]
        rfl
       refine pure_ (i := 8) (N := some 61) (v := ?_) (a' := ?_) #[true, true, true, true, true, false, true, true, true, false, false, false, false, false, false, false, false, false, false] rfl rfl (by kernel_rfl) (fun _ _ _ h => h) (Or.inl ⟨by rfl, ?_⟩) ?_ ?_
       rotate_left
       ·intro w'
        go_simp
        with_reducible rfl
       rotate_left
       ·simp only [Act.put, List.setIfInBounds_toArray, List.set_cons_zero, List.set_cons_succ, i64_w, i32_w, HWK.out]
        rfl
       refine pure_ (i := 10) (N := some 63) (v := ?_) (a' := ?_) #[true, true, true, true, true, false, true, true, true, false, true, false, false, false, false, false, false, false, false] rfl rfl (by kernel_rfl) (fun _ _ _ h => h) (Or.inl ⟨by rfl, ?_⟩) ?_ ?_
       rotate_left
       ·intro w'
        go_simp
        with_reducible rfl
       rotate_left
       ·simp only [Act.put, List.setIfInBounds_toArray, List.set_cons_zero, List.set_cons_succ, i64_w, i32_w, HWK.out]
        rfl
       refine pure_ (i := 11) (N := some 64) (v := ?_) (a' := ?_) #[true, true, true, true, true, false, true, true, true, false, true, true, false, false, false, false, false, false, false] rfl rfl (by kernel_rfl) (fun _ _ _ h => h) (Or.inl ⟨by rfl, ?_⟩) ?_ ?_
       rotate_left
       ·intro w'
        go_simp
        with_reducible rfl
       rotate_left
       ·simp only [Act.put, List.setIfInBounds_toArray, List.set_cons_zero, List.set_cons_succ, i64_w, i32_w, HWK.out]
        rfl
       refine pure_ (i := 12) (N := some 65) (v := ?_) (a' := ?_) #[true, true, true, true, true, false, true, true, true, false, true, true, true, false, false, false, false, false, false] rfl rfl (by kernel_rfl) (fun _ _ _ h => h) (Or.inl ⟨by rfl, ?_⟩) ?_ ?_
       rotate_left
       ·intro w'
        go_simp
        with_reducible rfl
       rotate_left
       ·simp only [Act.put, List.setIfInBounds_toArray, List.set_cons_zero, List.set_cons_succ, i64_w, i32_w, HWK.out]
        rfl
       refine pure_ (i := 13) (N := some 66) (v := ?_) (a' := ?_) #[true, true, true, true, true, false, true, true, true, false, true, true, true, true, false, false, false, false, false] rfl rfl (by kernel_rfl) (fun _ _ _ h => h) (Or.inl ⟨by rfl, ?_⟩) ?_ ?_
       rotate_left
       ·intro w'
        go_simp
        with_reducible rfl
       rotate_left
       ·simp only [Act.put, List.setIfInBounds_toArray, List.set_cons_zero, List.set_cons_succ, i64_w, i32_w, HWK.out]
        rfl
       refine take_ (i := 5) (N := some 58) (v := ?_) (a' := ?_) #[true, true, true, true, true, true, true, true, true, false, true, true, true, true, false, false, false, false, false] rfl rfl (by kernel_rfl) (fun _ _ _ h => h) (Or.inl ⟨by rfl, ?_⟩) hHeld ?_ ?_
       rotate_left
       ·rintro w' ⟨s0, s1⟩
        go_simp
        with_reducible rfl
       rotate_left
       ·simp only [Act.put, List.setIfInBounds_toArray, List.set_cons_zero, List.set_cons_succ, i64_w, i32_w, HWK.out]
        rfl
       refine take_ (i := 14) (N := some 67) (v := ?_) (a' := ?_) #[true, true, true, true, true, true, true, true, true, false, true, true, true, true, true, false, false, false, false] rfl rfl (by kernel_rfl) (fun _ _ _ h => h) (Or.inl ⟨by rfl, ?_⟩) hHeld ?_ ?_
       rotate_left
       ·rintro w' ⟨s0, s1⟩
        go_simp
        with_reducible rfl
       rotate_left
       ·simp only [Act.put, List.setIfInBounds_toArray, List.set_cons_zero, List.set_cons_succ, i64_w, i32_w, HWK.out]
        rfl
       refine one_ (i := 9) (N := some 62) #[true, true, true, true, true, true, true, true, true, true, true, true, true, true, true, false, false, false, false] rfl rfl (by kernel_rfl) (by decide) (fun K hK => ?_)
       refine Kd.R_lit_step k45 (w0 := W3.drew) W3.drew.heap.size 45 (by rfl) (N := 62) rfl (xs := ([⟨(ii : Int), (kk : Int)⟩] : List S45)) (inner := [.int .i64 (ii : Int), .int .i64 (kk : Int)]) (ok := fun k_ => W3.drew.heap.size ≤ k_) (okp := fun _ => False) ?hr ?hp (fun _ h_ => h_.elim) (Nat.le_refl _) (Below.refl _ _) (Nat.le_refl _) (by simp) ?_
       case hr => first | (go_simp; done) | (go_simp; rfl)
       case hp => exact Reps.snoc (Reps.none _ _) (k45_mkM _ _ _ ⟨(ii : Int), (kk : Int)⟩) rfl
       intro v62 w5 hr62 hb5 hg5 hat62
       have R62 := Aside0.mk hr62
       have HB5 := Aside0.mk hb5
       clear hr62 hb5 hg5 hat62
       refine hK.out _ _ ⟨(cell_keep HB5.out (by exact L7.out) hHeld.1), (cell_keep HB5.out (by exact L5.out) hHeld.2)⟩ (fun hHeld => ?_)
       clear hK K
       refine norm_ (a' := ?_) ?_ ?_
       rotate_left
       ·show Act.put _ (some 62) _ = _
        simp only [Act.put, List.setIfInBounds_toArray, List.set_cons_zero, List.set_cons_succ, i64_w, i32_w, HWK.out]
        rfl
       refine one_ (i := 15) (N := some 68) #[true, true, true, true, true, true, true, true, true, true, true, true, true, true, true, true, false, false, false] rfl rfl (by kernel_rfl) (by decide) (fun K hK => ?_)
       obtain ⟨A6, c6, rfl⟩ := Kd.R_slice R62.out
       refine Kd.R_append_rows_step k45 (Rr := k45.K w5) (w0 := w5) W3.drew.heap.size (by rfl) (.tmp 62) (.tmp 67) 41 45 (.agg #[.int .i64 0, .int .i64 0]) 16 rfl Try.underlying41 fInfoM rfl (by decide) (by omega) _ [⟨(ii : Int), (kk : Int)⟩] x4 A4 x4.length c4 (fun k_ => W3.drew.heap.size ≤ k_) (fun _ => False) rfl rfl R62.out ?aR (fun x_ cs_ h_ => by obtain rfl := k45_open h_; exact k45_mkM _ _ _ _) (fun _ h_ => h_.elim) (fun k_ hk_ => Nat.le_trans (Below.size HB5.out) hk_) (Below.refl _ _) (Below.size HB5.out) ?aL ?_
       case aR => exact (Kd.V_reads' (Kd.V_below (Kd.V_drew V4.out) HB5.out)).2.2
       case aL => have := N4.out; simp; omega
       intro v68 w6 hr68 hb6 hg6 hat68
       have R68 := Aside0.mk hr68
       have HB6 := Aside0.mk (hb6 : Below _ w5 w6)
       have HS6 := Aside0.mk (show W3.drew.heap.size ≤ w6.heap.size from Nat.le_trans (Below.size HB5.out) (Below.size HB6.out))
       clear hr68 hb6 hg6 hat68
       refine hK.out _ _ ⟨(cell_keep HB6.out (by exact L7.out) hHeld.1), (cell_keep HB6.out (by exact L5.out) hHeld.2)⟩ (fun hHeld => ?_)
       clear hK K
       refine norm_ (a' := ?_) ?_ ?_
       rotate_left
       ·show Act.put _ (some 68) _ = _
        simp only [Act.put, List.setIfInBounds_toArray, List.set_cons_zero, List.set_cons_succ, i64_w, i32_w, HWK.out]
        rfl
       refine one_ (i := 16) (N := some 69) #[true, true, true, true, true, true, true, true, true, true, true, true, true, true, true, true, true, false, false] rfl rfl (by kernel_rfl) (by decide) (fun K hK => ?_)
       obtain ⟨A7, cq7, rfl⟩ := Kd.R_slice R68.out
       have V68 := Aside0.mk (Kd.R_V (base' := w6.heap.size) R68.out)
       refine goes_ Try.func37 (by kernel_rfl) rfl #[.slice A3 y1.length c3, .slice A7 ([⟨(ii : Int), (kk : Int)⟩] ++ x4 : List S45).length cq7] (by rfl) rfl rfl (by simp only [List.map_toArray, List.map_cons, List.map_nil]; rfl) ?_
       with_reducible refine (sidingref14_better.calls kb2 _ A3 c3 y1 _ A7 cq7 ([⟨(ii : Int), (kk : Int)⟩] ++ x4) y2 _ (V_re (Kd.V_step (Kd.V_below (Kd.V_bound (Kd.V_drew V3.out)) HB5.out) (fun k_ hk _ => HB6.out.block k_ hk.2))) V68.out KB2.out).mono ?_
       rintro e w7 ⟨v69, rfl, hv69, hb7⟩
       refine ⟨_, rfl, ?_⟩
       obtain ⟨B69, cb69, rfl⟩ := Kd.V_slice hv69
       have V69 := Aside0.mk hv69
       have HB7 := Aside0.mk hb7
       clear hv69 hb7
       refine hK.out _ _ ⟨(cell_keep (Below.mono HB7.out HS6.out) (by exact L7.out) hHeld.1), (cell_keep (Below.mono HB7.out HS6.out) (by exact L5.out) hHeld.2)⟩ (fun hHeld => ?_)
       clear hK K
       refine norm_ (a' := ?_) ?_ ?_
       rotate_left
       ·show Act.put _ (some 69) _ = _
        simp only [Act.put, List.setIfInBounds_toArray, List.set_cons_zero, List.set_cons_succ, i64_w, i32_w, HWK.out]
        rfl
       refine pure_ (i := 17) (N := some 70) (v := ?_) (a' := ?_) #[true, true, true, true, true, true, true, true, true, true, true, true, true, true, true, true, true, true, false] rfl rfl (by kernel_rfl) (fun _ _ _ h => h) (Or.inl ⟨by rfl, ?_⟩) ?_ ?_
       rotate_left
       ·intro w'
        go_simp
        with_reducible rfl
       rotate_left
       ·simp only [Act.put, List.setIfInBounds_toArray, List.set_cons_zero, List.set_cons_succ, i64_w, i32_w, HWK.out]
        rfl
       refine last_ (i := 18) (N := none) #[true, true, true, true, true, true, true, true, true, true, true, true, true, true, true, true, true, true, true] rfl rfl (by kernel_rfl) (by decide) (fun K hK => ?_)
       have HN7w := Aside0.mk (Kd.N_mono (Kd.N_below (Kd.N_step (Kd.N_below (Kd.N_bound (Kd.N_drew HN7b.out)) HB5.out) (fun k_ hk _ => HB6.out.block k_ hk.2)) HB7.out) (fun _ hk => hk.1))
       have hf7 := row_frozen HN7w.out kk
       obtain ⟨AAo, cao, hco, _⟩ := rowget (b := w.heap.size) HN7w.out kk (by omega)
       refine skip_ (w1 := ?_) (by rfl) rfl ?_ ?_
       rotate_left
       ·go_simp
        rfl
       refine hK.out _ _ ?_
       clear hK K
       refine done_ (by kernel_rfl) ?_
       have hN7 := rowset HN7w.out kk (by omega) V69.out (fun k_ hk => by
        have hs := Below.size HBb.out
        have hs7 : g7 < W3.drew.heap.size := L7.out
        have hs1 : w.heap.size ≤ W3.drew.heap.size := hs
        have hs6 := HS6.out
        rcases hk with (hk | hk) | hk
        ·exact ⟨hk.1.1, hk.1.2⟩
        ·exact ⟨Nat.le_trans hs1 hk, Nat.ne_of_gt (Nat.lt_of_lt_of_le hs7 hk)⟩
        ·exact ⟨Nat.le_trans hs1 (Nat.le_trans hs6 hk), Nat.ne_of_gt (Nat.lt_of_lt_of_le hs7 (Nat.le_trans hs6 hk))⟩)
       have HN5w := Aside0.mk (Kd.N_mono (Kd.N_below (Kd.N_step (Kd.N_below (Kd.N_bound (Kd.N_drew HN5b.out)) HB5.out) (fun k_ hk _ => HB6.out.block k_ hk.2)) HB7.out) (fun _ hk => hk.1))
       have hg7 : w.heap.size ≤ g7 := Kd.N_base HN7b.out g7 (by simp [Value.ownBlock])
       have hsB0 : w.heap.size ≤ W3.heap.size := Below.size HBb.out
       have hbw : Below w.heap.size w w7 := Below.trans (show Below w.heap.size w W3.drew from below_drew HBb.out) (Below.trans (Below.mono HB5.out (show w.heap.size ≤ W3.drew.heap.size from hsB0)) (Below.trans (Below.mono HB6.out (show w.heap.size ≤ W3.drew.heap.size from hsB0)) (Below.mono HB7.out (Nat.le_trans (show w.heap.size ≤ W3.drew.heap.size from hsB0) HS6.out))))
       have HN5x := Aside0.mk (Kd.N_grown HN5w.out hN7.2 (fun k_ hk he => hk.2 (by injection he)))
       have HN7x := Aside0.mk hN7.1
       have HBx := Aside0.mk (below_set (j := kk) (v := .slice B69 y2.length cb69) hbw hg7)
       clear hbw hg7 hN7
       go_wp2
       go_roundg kk
       case measure => omega
       case rel => exact ⟨kk, by omega, Nat.le_refl _, (by first | rfl | (simp; done)), HN5x, ⟨by have h8 := HN7x.out; rw [rowG_set2, rowG_set l0 l1 ii kk y2 HRW.out.symm] at h8; exact h8⟩, HBx⟩
      ·have h7 : (sa.toList == sb.toList) = false := by simpa using fun e => heq (toList_inj.1 e)
       have HRW := Aside0.mk (HST.out.trans (if_neg heq))
       clear heq HST
       go_wp2
       go_quiet (fail)
       go_wp2
       go_roundg kk
       case measure => omega
       case rel => exact ⟨kk, by omega, Nat.le_refl _, (by first | rfl | (simp; done)), ⟨Kd.N_drewN HN5b.out _⟩, ⟨by rw [← rowG_set l0 l1 ii kk y1 HRW.out.symm]; exact Kd.N_drewN HN7b.out _⟩, ⟨pw_below_drewN HBb.out _⟩⟩
 ·cases h
end Go.Proofs.Ytmgbbmjfjnhmiaa.Pr
end
section
namespace Go.Proofs.Ytmgbbmjfjnhmiaa.Pr
open Go.RowKit Go.Proofs.YtmgbbmjfjnhmiaaW.PrintWords Go.Proofs.YtmgbbmjfjnhmiaaW.PrintLast Go.Proofs.YtmgbbmjfjnhmiaaW.PrintMore
attribute [local go_sem] max2_int min2_int max_two min_two max_three min_three max_four min_four   
def sidingref14_Best.f (k : Nat) (l0 : List ByteArray) (l1 : List ByteArray) : Option ((List (S45)) × Int) := (sidingref14_Both.f k l0 l1).bind fun t346 => (if t346 = 0 then ((some (([] : List (S45)) : List (S45))).bind fun y347 => ((ref14_Found.f l0 l1).bind fun t350 => (if y347.length + t350.length < 8796093022208 then (some ((y347 ++ t350), 0)) else (none)))) else ((sidingref14_Both.f k l0 l1).bind fun t356 => (some (([] : List (S45)), t356))))
set_option maxHeartbeats 8000000 in
set_option maxRecDepth 100000 in
theorem sidingref14_Best.calls (k : Nat) (A0 : Option Addr) (c0 : Nat) (l0 : List ByteArray) (A1 : Option Addr) (c1 : Nat) (l1 : List ByteArray) (r1 : List (S45)) (r2 : Int) (w : World) (hr0 : Kd.C Kd.string w A0 l0.length l0) (hc0 : l0.length ≤ c0) (hr1 : Kd.C Kd.string w A1 l1.length l1) (hc1 : l1.length ≤ c1) (h : sidingref14_Best.f k l0 l1 = some (r1, r2)) :
  Calls Try.prog 18 #[.slice A0 l0.length c0, .slice A1 l1.length c1] w fun e w' => ∃ v0_ : Value, e = .returned (.tuple #[v0_, .int .i64 r2]) ∧ Kd.R k45 45 w' w.heap.size (fun _ => True) v0_ r1 ∧ Below w.heap.size w w' := by
 have HR0 := Aside0.mk hr0
 have HC0 := Aside0.mk hc0
 clear hr0 hc0
 have HR1 := Aside0.mk hr1
 have HC1 := Aside0.mk hc1
 clear hr1 hc1
 have HB := Aside0.mk (Below.refl w.heap.size w)
 have H : ((sidingref14_Both.f k l0 l1).bind fun t346 => (if t346 = 0 then ((some (([] : List (S45)) : List (S45))).bind fun y347 => ((ref14_Found.f l0 l1).bind fun t350 => (if y347.length + t350.length < 8796093022208 then (some ((y347 ++ t350), 0)) else (none)))) else ((sidingref14_Both.f k l0 l1).bind fun t356 => (some (([] : List (S45)), t356))))) = some (r1, r2) := h
 clear h
 replace H := Option.bind_eq_some_iff.mp H
 obtain ⟨t346, A30, H⟩ := H
 replace H : (if t346 = 0 then ((some (([] : List (S45)) : List (S45))).bind fun y347 => ((ref14_Found.f l0 l1).bind fun t350 => (if y347.length + t350.length < 8796093022208 then (some ((y347 ++ t350), 0)) else (none)))) else ((sidingref14_Both.f k l0 l1).bind fun t356 => (some (([] : List (S45)), t356)))) = some (r1, r2) := H
 have A3 := Aside0.mk A30
 clear A30
 by_cases c4 : t346 = 0
 ·rw [if_pos c4] at H
  have c4b0 : (t346 == 0) = true := beq_iff_eq.mpr c4
  have c4b1 : (t346 != 0) = false := bne_eq_false_iff_eq.mpr c4
  clear c4
  obtain ⟨y347, hy347⟩ : ∃ y_ : List (S45), y_ = (([] : List (S45))) := ⟨_, rfl⟩
  replace H : ((ref14_Found.f l0 l1).bind fun t350 => (if y347.length + t350.length < 8796093022208 then (some ((y347 ++ t350), 0)) else (none))) = some (r1, r2) := by first | (rw [hy347]; with_reducible exact H) | (have H2_ := (Option.bind_some _ _).symm.trans H; rw [hy347]; with_reducible exact H2_) | (have H2_ := (Option.bind_some _ _).symm.trans H; with_reducible exact H2_) | with_reducible exact H | (rw [hy347]; exact H) | exact H
  have Ny347 := Aside0.mk hy347
  clear hy347
  replace H := Option.bind_eq_some_iff.mp H
  obtain ⟨t350, A50, H⟩ := H
  replace H : (if y347.length + t350.length < 8796093022208 then (some ((y347 ++ t350), 0)) else (none)) = some (r1, r2) := H
  have A5 := Aside0.mk A50
  clear A50
  by_cases c6 : y347.length + t350.length < 8796093022208
  ·rw [if_pos c6] at H
   have LMc6 := Aside0.mk c6
   clear c6
   obtain ⟨y353, hy353⟩ : ∃ y_ : List (S45), y_ = (y347 ++ t350) := ⟨_, rfl⟩
   replace H : (some (y353, 0)) = some (r1, r2) := by first | (rw [hy353]; with_reducible exact H) | (have H2_ := (Option.bind_some _ _).symm.trans H; rw [hy353]; with_reducible exact H2_) | (have H2_ := (Option.bind_some _ _).symm.trans H; with_reducible exact H2_) | with_reducible exact H | (rw [hy353]; exact H) | exact H
   have Ny353 := Aside0.mk hy353
   clear hy353
   simp only [Option.some.injEq, Prod.mk.injEq] at H
   obtain ⟨rfl, rfl⟩ := H
   go_enter Try.func18, Try.ntmps18
   go_wp2_with (first | ((with_reducible refine gate_callee (f := 28) rfl ?_); refine goesL_ (some 8) rfl rfl Try.func28 (by kernel_rfl) rfl #[.slice A0 l0.length c0, .slice A1 l1.length c1] rfl (by (try simp only [List.map_toArray, List.map_cons, List.map_nil]); first | done | rfl | (simp only [List.length_drop, List.length_take]; rfl)) ?_; (with_reducible refine (sidingref14_Both.calls k _ _ l0 _ _ l1 t346 _ ?side1 ?side2 ?side3 ?side4 A3.out).mono ?_); (case side1 => repeat (first | exact HR0.out | (with_reducible refine Kd.C_alloc ?_ _) | (with_reducible refine Kd.C_drewN ?_ _) | (with_reducible refine Kd.C_drew ?_))); (case side2 => exact HC0.out); (case side3 => repeat (first | exact HR1.out | (with_reducible refine Kd.C_alloc ?_ _) | (with_reducible refine Kd.C_drewN ?_ _) | (with_reducible refine Kd.C_drew ?_))); (case side4 => exact HC1.out); rintro e w7 ⟨rfl, hb⟩; refine ⟨_, rfl, ?_⟩; have n0_ := Aside0.mk (below_step (by repeat (first | (with_reducible first | exact HB.out | apply below_alloc | apply pw_below_drewN | apply below_drew1) | exact HB.out)) hb); clear HB; have HB := n0_; clear n0_; (try clear hb); (try clear hb2); (try clear hk); (try clear hi)) | ((with_reducible refine gate_dst (N := 13) rfl ?_); refine Kd.R_lit k45 _ 45 ?hg (N := 13) ?hd (xs := ([] : List (S45))) (inner := []) (ok := fun _ => True) (okp := fun _ => True) ?hr ?hp (fun _ hk => hk) trivial (Below.refl _ _) (Nat.le_refl _) (by simp) ?_; (case hd => rfl); (case hg => rfl); (case hr => first | (go_simp; done) | (go_simp; rfl)); (case hp => exact (Reps.none _ _)); intro v348 w8 ho9 hb hg_ hnew_; clear hg_ hnew_; (first | rw [← Ny347.out] at ho9 | (simp only [Int.reduceToNat] at ho9; rw [← Ny347.out] at ho9)); have n0_ := Aside0.mk (Kd.R_lower ho9 (below_size (by repeat (first | (with_reducible first | exact HB.out | apply below_alloc | apply pw_below_drewN | apply below_drew1) | exact HB.out)))); have n1_ := Aside0.mk (below_step (by repeat (first | (with_reducible first | exact HB.out | apply below_alloc | apply pw_below_drewN | apply below_drew1) | exact HB.out)) hb); clear HB; have HO349 := n0_; have HB := n1_; clear n0_ n1_; clear hb ho9) | ((with_reducible refine gate_callee (f := 29) rfl ?_); refine goesL_ (some 16) rfl rfl Try.func29 (by kernel_rfl) rfl #[.slice A0 l0.length c0, .slice A1 l1.length c1] rfl (by (try simp only [List.map_toArray, List.map_cons, List.map_nil]); first | done | rfl | (simp only [List.length_drop, List.length_take]; rfl)) ?_; (with_reducible refine (ref14_Found.calls _ _ l0 _ _ l1 t350 _ ?side1 ?side2 ?side3 ?side4 A5.out).mono ?_); (case side1 => repeat (first | exact (Kd.C_below HR0.out HB.out) | (with_reducible refine Kd.C_alloc ?_ _) | (with_reducible refine Kd.C_drewN ?_ _) | (with_reducible refine Kd.C_drew ?_))); (case side2 => exact HC0.out); (case side3 => repeat (first | exact (Kd.C_below HR1.out HB.out) | (with_reducible refine Kd.C_alloc ?_ _) | (with_reducible refine Kd.C_drewN ?_ _) | (with_reducible refine Kd.C_drew ?_))); (case side4 => exact HC1.out); rintro e w10 ⟨v351, rfl, ho0, hb⟩; refine ⟨_, rfl, ?_⟩; have n0_ := Aside0.mk (Kd.R_below (by (with_reducible repeat (first | apply Kd.R_alloc | apply Kd.R_drewN | apply Kd.R_drew)); exact HO349.out) hb); have n1_ := Aside0.mk (Kd.V_lower (Kd.V_mono (ok' := fun k_ => some k_ ≠ (v348 : Value).ownBlock) ho0 (fun k_ hk_ => (Kd.fresh' (Kd.R_lt (by (with_reducible repeat (first | apply Kd.R_alloc | apply Kd.R_drewN | apply Kd.R_drew)); exact HO349.out)) k_ hk_))) (below_size (by repeat (first | (with_reducible first | exact HB.out | apply below_alloc | apply pw_below_drewN | apply below_drew1) | exact HB.out)))); have n2_ := Aside0.mk (below_step (by repeat (first | (with_reducible first | exact HB.out | apply below_alloc | apply pw_below_drewN | apply below_drew1) | exact HB.out)) hb); clear HO349; clear HB; have HO349 := n0_; have HO352 := n1_; have HB := n2_; clear n0_ n1_ n2_; (try clear hb); (try clear hb2); (try clear hk); (try clear hi); (try clear ho0); obtain ⟨Ao12, co12, eo12⟩ := Kd.V_slice HO352.out; subst eo12) | ((with_reducible refine gate_builtin (b := .append) (xs := #[.tmp 13, .tmp 16]) rfl ?_); at_builtin; refine Kd.R_append_rows k45 (w0 := w) w.heap.size rfl (.tmp 13) (.tmp 16) 41 45 (.agg #[(.int .i64 0), (.int .i64 0)]) 16 rfl Try.underlying41 info45 rfl (by decide) (by omega) v348 y347 t350 _ _ _ (fun _ => True) (fun _ => False) rfl rfl ?aO ?aR (fun _ _ h => h) (fun _ h => h.elim) ?aF ?aB ?aS ?aL ?_; (case aR => repeat (first | exact (Kd.V_reads' HO352.out).2.2 | (with_reducible refine Kd.C_alloc ?_ _) | (with_reducible refine Kd.C_drewN ?_ _) | (with_reducible refine Kd.C_drew ?_))); (case aB => exact (by repeat (first | (with_reducible first | exact HB.out | apply below_alloc | apply pw_below_drewN | apply below_drew1) | exact HB.out))); (case aF => exact (fun _ _ => trivial)); (case aO => exact (by (with_reducible repeat (first | apply Kd.R_alloc | apply Kd.R_drewN | apply Kd.R_drew)); exact HO349.out)); (case aS => exact (below_size (by repeat (first | (with_reducible first | exact HB.out | apply below_alloc | apply pw_below_drewN | apply below_drew1) | exact HB.out)))); (case aL => have := LMc6.out; omega); intro v354 w11 ho hb hg hat; rw [← Ny353.out] at ho; have n0_ := Aside0.mk (Kd.V_afterv (ok := (fun _ => True)) (by (with_reducible repeat (first | apply Kd.V_alloc | apply Kd.V_drewN | apply Kd.V_drew)); exact Kd.V_mono HO352.out (fun _ hk => ⟨trivial, hk⟩)) hg hat); have n1_ := Aside0.mk (hb); have n2_ := Aside0.mk (ho); clear HO352; clear HB; clear HO349; have HO352 := n0_; have HB := n1_; have HO355 := n2_; clear n0_ n1_ n2_; clear ho hb hg hat))
   go_ret2
   exact ⟨_, by first | rfl | (simp [errW_none, errW_some] <;> rfl) | (simp [*, errW_none, errW_some] <;> rfl), by (with_reducible repeat (first | apply Kd.R_alloc | apply Kd.R_drewN | apply Kd.R_drew)); exact HO355.out, by repeat (first | (with_reducible first | exact HB.out | apply below_alloc | apply pw_below_drewN | apply below_drew1) | exact HB.out)⟩
  ·rw [if_neg c6] at H
   exact absurd H (by simp)
 ·rw [if_neg c4] at H
  have c4b0 : (t346 == 0) = false := beq_eq_false_iff_ne.mpr c4
  have c4b1 : (t346 != 0) = true := bne_iff_ne.mpr c4
  replace H := Option.bind_eq_some_iff.mp H
  obtain ⟨t356, A130, H⟩ := H
  replace H : (some (([] : List (S45)), t356)) = some (r1, r2) := H
  have A13 := Aside0.mk A130
  (try have sameA13 := (Option.some.inj (A3.out.symm.trans A13.out) : t346 = t356))
  clear A130
  simp only [Option.some.injEq, Prod.mk.injEq] at H
  obtain ⟨rfl, rfl⟩ := H
  go_enter Try.func18, Try.ntmps18
  go_wp2_with (first | ((with_reducible refine gate_callee (f := 28) rfl ?_); refine goesL_ (some 8) rfl rfl Try.func28 (by kernel_rfl) rfl #[.slice A0 l0.length c0, .slice A1 l1.length c1] rfl (by (try simp only [List.map_toArray, List.map_cons, List.map_nil]); first | done | rfl | (simp only [List.length_drop, List.length_take]; rfl)) ?_; (with_reducible refine (sidingref14_Both.calls k _ _ l0 _ _ l1 t346 _ ?side1 ?side2 ?side3 ?side4 A3.out).mono ?_); (case side1 => repeat (first | exact HR0.out | (with_reducible refine Kd.C_alloc ?_ _) | (with_reducible refine Kd.C_drewN ?_ _) | (with_reducible refine Kd.C_drew ?_))); (case side2 => exact HC0.out); (case side3 => repeat (first | exact HR1.out | (with_reducible refine Kd.C_alloc ?_ _) | (with_reducible refine Kd.C_drewN ?_ _) | (with_reducible refine Kd.C_drew ?_))); (case side4 => exact HC1.out); rintro e w14 ⟨rfl, hb⟩; refine ⟨_, rfl, ?_⟩; have n0_ := Aside0.mk (below_step (by repeat (first | (with_reducible first | exact HB.out | apply below_alloc | apply pw_below_drewN | apply below_drew1) | exact HB.out)) hb); clear HB; have HB := n0_; clear n0_; (try clear hb); (try clear hb2); (try clear hk); (try clear hi)) | ((with_reducible refine gate_callee (f := 28) rfl ?_); refine goesL_ (some 12) rfl rfl Try.func28 (by kernel_rfl) rfl #[.slice A0 l0.length c0, .slice A1 l1.length c1] rfl (by (try simp only [List.map_toArray, List.map_cons, List.map_nil]); first | done | rfl | (simp only [List.length_drop, List.length_take]; rfl)) ?_; (with_reducible refine (sidingref14_Both.calls k _ _ l0 _ _ l1 t356 _ ?side1 ?side2 ?side3 ?side4 A13.out).mono ?_); (case side1 => repeat (first | exact (Kd.C_below HR0.out HB.out) | (with_reducible refine Kd.C_alloc ?_ _) | (with_reducible refine Kd.C_drewN ?_ _) | (with_reducible refine Kd.C_drew ?_))); (case side2 => exact HC0.out); (case side3 => repeat (first | exact (Kd.C_below HR1.out HB.out) | (with_reducible refine Kd.C_alloc ?_ _) | (with_reducible refine Kd.C_drewN ?_ _) | (with_reducible refine Kd.C_drew ?_))); (case side4 => exact HC1.out); rintro e w15 ⟨rfl, hb⟩; refine ⟨_, rfl, ?_⟩; have n0_ := Aside0.mk (below_step (by repeat (first | (with_reducible first | exact HB.out | apply below_alloc | apply pw_below_drewN | apply below_drew1) | exact HB.out)) hb); clear HB; have HB := n0_; clear n0_; (try clear hb); (try clear hb2); (try clear hk); (try clear hi)))
  go_ret2
  (try rw [sameA13])
  exact ⟨_, by first | rfl | (simp [errW_none, errW_some] <;> rfl) | (simp [*, errW_none, errW_some] <;> rfl), by first | exact Kd.R_nil _ _ _ _ _ | exact Kd.N_nil _ _ _ _ _ | exact Kd.V_nil _ _ _ _ _ | exact Kd.Q_nil _ _ _ _ _ | exact Kd.S_nil _ _ _ _ _, by repeat (first | (with_reducible first | exact HB.out | apply below_alloc | apply pw_below_drewN | apply below_drew1) | exact HB.out)⟩
end Go.Proofs.Ytmgbbmjfjnhmiaa.Pr
end
