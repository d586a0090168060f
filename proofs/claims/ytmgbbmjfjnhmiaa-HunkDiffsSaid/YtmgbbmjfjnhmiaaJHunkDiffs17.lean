/- Part 17 of the proof of HunkDiffs: texts put together. -/
import Derived.Test.YtmgbbmjfjnhmiaaJHunkDiffs4
import Derived.Test.YtmgbbmjfjnhmiaaJHunkDiffs14
import Derived.Test.YtmgbbmjfjnhmiaaJHunkDiffs16
set_option linter.unusedVariables false
set_option linter.unusedSimpArgs false
section
namespace Go.Proofs.Ytmgbbmjfjnhmiaa.Pr
open Go.RowKit Go.Proofs.YtmgbbmjfjnhmiaaW.PrintWords Go.Proofs.YtmgbbmjfjnhmiaaW.PrintLast Go.Proofs.YtmgbbmjfjnhmiaaW.PrintMore
def rdiff.more (a b : List ByteArray) (i k : Nat) : Bool := decide (i < a.length ∨ k < b.length)
theorem rdiff.more_t {a b : List ByteArray} {i k : Nat} (h : i < a.length ∨ k < b.length) : rdiff.more a b i k = true := decide_eq_true h
theorem rdiff.more_f {a b : List ByteArray} {i k : Nat} (h : ¬ (i < a.length ∨ k < b.length)) : rdiff.more a b i k = false := decide_eq_false h
def rdiff.hit (m : List S45) (i k p : Nat) : Bool := match m[p]? with
  | some x => decide (x.f0 = (i : Int)) && decide (x.f1 = (k : Int))
  | none => false
def rdiff.old (a : List ByteArray) (m : List S45) (i p : Nat) : Bool := decide (i < a.length) && (match m[p]? with
  | some x => decide ((i : Int) < x.f0)
  | none => true)
def rdiff (a b : List ByteArray) (m : List S45) : Nat → Nat → Nat → Nat → List S40 → Option S40 → Option (List S40)
  | 0, _, _, _, _, _ => none
  | n + 1, i, k, p, out, cur =>
    if i < a.length ∨ k < b.length then
      if rdiff.hit m i k p = true then rdiff a b m n (i + 1) (k + 1) (p + 1) (out ++ cur.toList) none
      else if rdiff.old a m i p = true then rdiff a b m n (i + 1) k p out (some ⟨(cur.getD ⟨i, [], []⟩).f0, (cur.getD ⟨i, [], []⟩).f1 ++ [a.getD i ByteArray.empty], (cur.getD ⟨i, [], []⟩).f2⟩)
      else if k < b.length then rdiff a b m n i (k + 1) p out (some ⟨(cur.getD ⟨i, [], []⟩).f0, (cur.getD ⟨i, [], []⟩).f1, (cur.getD ⟨i, [], []⟩).f2 ++ [b.getD k ByteArray.empty]⟩)
      else none
    else some (out ++ cur.toList)
def rdiff.ok (N n i k p : Nat) (out : List S40) (cur : Option S40) : Prop := i + n ≤ N ∧ k + n ≤ N ∧ p + n ≤ N ∧ out.length + cur.toList.length + n ≤ N ∧ (cur.getD ⟨i, [], []⟩).f1.length + n ≤ N ∧ (cur.getD ⟨i, [], []⟩).f2.length + n ≤ N
theorem rdiff.ok_hit {N n i k p : Nat} {out : List S40} {cur : Option S40} (h : rdiff.ok N (n + 1) i k p out cur) : rdiff.ok N n (i + 1) (k + 1) (p + 1) (out ++ cur.toList) none := by
  obtain ⟨h1, h2, h3, h4, h5, h6⟩ := h
  refine ⟨by omega, by omega, by omega, ?_, ?_, ?_⟩
  · rw [List.length_append]
    simp only [Option.toList_none, List.length_nil]
    omega
  · show 0 + n ≤ N
    omega
  · show 0 + n ≤ N
    omega
theorem rdiff.ok_one {N n i i' k k' p : Nat} {out : List S40} {cur : Option S40} (h : rdiff.ok N (n + 1) i k p out cur) (y : S40) (hi : i' ≤ i + 1) (hk : k' ≤ k + 1) (h1 : y.f1.length ≤ (cur.getD ⟨i, [], []⟩).f1.length + 1) (h2 : y.f2.length ≤ (cur.getD ⟨i, [], []⟩).f2.length + 1) : rdiff.ok N n i' k' p out (some y) := by
  obtain ⟨a1, a2, a3, a4, a5, a6⟩ := h
  refine ⟨by omega, by omega, by omega, ?_, ?_, ?_⟩
  · simp only [Option.toList_some, List.length_cons, List.length_nil]
    omega
  · show y.f1.length + n ≤ N
    omega
  · show y.f2.length + n ≤ N
    omega
def ref15_Diff.g (l0 l1 : List ByteArray) (x : List S45 × Int) : Option (List S40 × Int) :=
  if x.2 = 0 then (if l0.length ≤ 1000000 ∧ l1.length ≤ 1000000 ∧ x.1.length ≤ 1000000 then (rdiff l0 l1 x.1 (l0.length + l1.length + 1) 0 0 0 [] none).map fun r => (r, 0) else none) else some ([], x.2)
def ref15_Diff.f (k : Nat) (l0 l1 : List ByteArray) : Option (List S40 × Int) := (sidingref14_Best.f k l0 l1).bind (ref15_Diff.g l0 l1)
theorem rdiff.hit_lt {m : List S45} {i k p : Nat} (h : rdiff.hit m i k p = true) : p + 1 ≤ m.length := by
  unfold rdiff.hit at h
  split at h
  · rename_i e
    exact (List.getElem?_eq_some_iff.1 e).1
  · cases h
theorem rdiff.old_lt {a : List ByteArray} {m : List S45} {i p : Nat} (h : rdiff.old a m i p = true) : i < a.length := by
  unfold rdiff.old at h
  rw [Bool.and_eq_true] at h
  exact of_decide_eq_true h.1
theorem rdiff.getD_some {α : Type} (l : List α) (i : Nat) (z : α) (h : i < l.length) : l[i]? = some (l.getD i z) := by
  rw [List.getD_eq_getElem?_getD, List.getElem?_eq_getElem h]
  rfl
theorem rdiff.last {α : Type} (l : List α) (x z : α) : (l ++ [x]).getD l.length z = x := by
  rw [List.getD_eq_getElem?_getD]
  simp
theorem rdiff.setlast {α : Type} (l : List α) (x y : α) : (l ++ [x]).set l.length y = l ++ [y] := by simp
theorem rdiff.lend1 {e : Nat} {W : World} {base g cap : Nat} {out : List S40} {h : S40} (hS : Kd.S kHa e W base (fun _ => True) (.slice (some ⟨g, 0, none⟩) (out.length + 1) cap) (out ++ [h])) :
    ∃ (v1 : Value) (okr : Nat → Prop), W.cell? ⟨g, out.length * 3 + 1, none⟩ = some v1 ∧ W.frozen? ⟨g, out.length * 3 + 1, none⟩ = false ∧ (∀ k, W.heap.size ≤ k → okr k) ∧ (∀ k, v1.ownBlock = some k → k ≠ g) ∧ Kd.string.R 9 W base okr v1 h.f1 ∧
      ∀ (w1 : World) (v' : Value) (ys : List ByteArray), W.grownBy w1 v1.ownBlock → Kd.string.R 9 w1 base okr v' ys → w1.cell? ⟨g, out.length * 3 + 1, none⟩ = some v1 ∧ w1.frozen? ⟨g, out.length * 3 + 1, none⟩ = false ∧
        Kd.S kHa e (w1.setCell ⟨g, out.length * 3 + 1, none⟩ v') base (fun _ => True) (.slice (some ⟨g, 0, none⟩) (out.length + 1) cap) (out ++ [⟨h.f0, ys, h.f2⟩]) ∧ w1.grownBy (w1.setCell ⟨g, out.length * 3 + 1, none⟩ v') (some g) := by
  have h1 := kHa_lend1 hS out.length (Nat.lt_succ_self _)
  simp only [rdiff.last, rdiff.setlast] at h1
  exact h1
theorem rdiff.lend2 {e : Nat} {W : World} {base g cap : Nat} {out : List S40} {h : S40} (hS : Kd.S kHa e W base (fun _ => True) (.slice (some ⟨g, 0, none⟩) (out.length + 1) cap) (out ++ [h])) :
    ∃ (v1 : Value) (okr : Nat → Prop), W.cell? ⟨g, out.length * 3 + 2, none⟩ = some v1 ∧ W.frozen? ⟨g, out.length * 3 + 2, none⟩ = false ∧ (∀ k, W.heap.size ≤ k → okr k) ∧ (∀ k, v1.ownBlock = some k → k ≠ g) ∧ Kd.string.R 9 W base okr v1 h.f2 ∧
      ∀ (w1 : World) (v' : Value) (ys : List ByteArray), W.grownBy w1 v1.ownBlock → Kd.string.R 9 w1 base okr v' ys → w1.cell? ⟨g, out.length * 3 + 2, none⟩ = some v1 ∧ w1.frozen? ⟨g, out.length * 3 + 2, none⟩ = false ∧
        Kd.S kHa e (w1.setCell ⟨g, out.length * 3 + 2, none⟩ v') base (fun _ => True) (.slice (some ⟨g, 0, none⟩) (out.length + 1) cap) (out ++ [⟨h.f0, h.f1, ys⟩]) ∧ w1.grownBy (w1.setCell ⟨g, out.length * 3 + 2, none⟩ v') (some g) := by
  have h1 := kHa_lend2 hS out.length (Nat.lt_succ_self _)
  simp only [rdiff.last, rdiff.setlast] at h1
  exact h1
abbrev ref15_Diff.Bz0 : Array Bool := #[false, false, false, false, false, false, false, false, false, false, false, false, false, false, false, false]
abbrev ref15_Diff.Bz1 : Array Bool := #[true, false, false, false, false, false, false, false, false, false, false, false, false, false, false, false]
abbrev ref15_Diff.Bz2 : Array Bool := #[true, true, false, false, false, false, false, false, false, false, false, false, false, false, false, false]
abbrev ref15_Diff.Bz3 : Array Bool := #[true, true, true, false, false, false, false, false, false, false, false, false, false, false, false, false]
abbrev ref15_Diff.Bz4 : Array Bool := #[true, true, true, true, false, false, false, false, false, false, false, false, false, false, false, false]
abbrev ref15_Diff.Bz5 : Array Bool := #[true, true, true, true, true, false, false, false, false, false, false, false, false, false, false, false]
abbrev ref15_Diff.Bz6 : Array Bool := #[true, true, true, true, true, true, false, false, false, false, false, false, false, false, false, false]
abbrev ref15_Diff.Bz7 : Array Bool := #[true, true, true, true, true, true, false, true, false, false, false, false, false, false, false, false]
abbrev ref15_Diff.Bz8 : Array Bool := #[true, true, true, true, true, true, false, true, true, false, false, false, false, false, false, false]
abbrev ref15_Diff.Bz9 : Array Bool := #[true, true, true, true, true, true, false, true, true, true, false, false, false, false, false, false]
abbrev ref15_Diff.Bz10 : Array Bool := #[true, true, true, true, true, true, true, true, true, true, false, false, false, false, false, false]
abbrev ref15_Diff.Bz11 : Array Bool := #[true, true, true, true, true, true, true, true, true, true, true, false, false, false, false, false]
abbrev ref15_Diff.Bz12 : Array Bool := #[true, true, true, true, true, true, true, true, true, true, true, true, false, false, false, false]
abbrev ref15_Diff.Bz13 : Array Bool := #[true, true, true, true, true, true, true, true, true, true, true, true, true, false, false, false]
abbrev ref15_Diff.Bz14 : Array Bool := #[true, true, true, true, true, true, true, true, true, true, true, true, true, true, false, false]
abbrev ref15_Diff.Bz15 : Array Bool := #[true, true, true, true, true, true, true, true, true, true, true, true, true, true, true, false]
abbrev ref15_Diff.Bz16 : Array Bool := #[true, true, true, true, true, true, true, true, true, true, true, true, true, true, true, true]
open ref15_Diff in
set_option maxHeartbeats 8000000 in
set_option maxRecDepth 100000 in
theorem ref15_Diff.calls (k : Nat) (A0 : Option Addr) (c0 : Nat) (l0 : List ByteArray) (A1 : Option Addr) (c1 : Nat) (l1 : List ByteArray) (r1 : List S40) (r2 : Int) (w : World) (hr0 : Kd.C Kd.string w A0 l0.length l0) (hc0 : l0.length ≤ c0) (hr1 : Kd.C Kd.string w A1 l1.length l1) (hc1 : l1.length ≤ c1) (h : ref15_Diff.f k l0 l1 = some (r1, r2)) :
  Calls Try.prog 8 #[.slice A0 l0.length c0, .slice A1 l1.length c1] w fun e w' => ∃ v0_ : Value, e = .returned (.tuple #[v0_, .int .i64 r2]) ∧ Kd.S k40 40 w' w.heap.size (fun _ => True) v0_ r1 ∧ Below w.heap.size w w' := by
 unfold ref15_Diff.f at h
 obtain ⟨⟨m, e⟩, hb, h⟩ := Option.bind_eq_some_iff.1 h
 unfold ref15_Diff.g at h
 dsimp only at h
 have HB := Aside0.mk hb
 clear hb
 by_cases he : e = 0
 ·subst he
  rw [if_pos rfl] at h
  split at h
  ·rename_i hsm
   obtain ⟨hs0, hs1, hsm⟩ := hsm
   obtain ⟨r, hr, e_⟩ := Option.map_eq_some_iff.1 h
   obtain ⟨rfl, rfl⟩ := Prod.mk.inj e_
   clear e_ h
   obtain ⟨NN, hNN⟩ : ∃ NN, NN = l0.length + l1.length + 1 := ⟨_, rfl⟩
   rw [← hNN] at hr
   have hN9 : NN ≤ 2000001 := by omega
   clear hNN
   have HR := Aside0.mk hr
   have HR0 := Aside0.mk hr0
   have HR1 := Aside0.mk hr1
   have HC0 := Aside0.mk hc0
   have HC1 := Aside0.mk hc1
   clear hr hr0 hr1 hc0 hc1
   go_enter Try.func8, Try.ntmps8
   go_wp2_with (go_at_call 18; (with_reducible refine (sidingref14_Best.calls k A0 c0 l0 A1 c1 l1 m 0 _ HR0.out HC0.out HR1.out HC1.out HB.out).mono ?_); rintro e_ w1 ⟨v6, rfl, hv6, hb1⟩; obtain ⟨Am, cm, rfl⟩ := Kd.R_slice hv6; have HM := Aside0.mk (Kd.R_reads' hv6).2.2; have HB1 := Aside0.mk hb1; clear hv6 hb1)
   go_loopg [8, 9, 10, 11, 12] NN (fun nq v8 v9 v10 v11 v12 wr => ∃ (n i k p : Nat) (out : List S40) (cur : Option S40), n = nq ∧ v9 = .int .i64 (i : Int) ∧ v10 = .int .i64 (k : Int) ∧ v11 = .int .i64 (p : Int) ∧ v12 = .bool cur.isNone ∧ Aside0 (rdiff l0 l1 m n i k p out cur = some r) ∧ p ≤ m.length ∧ Aside0 (rdiff.ok NN n i k p out cur) ∧ Aside0 (Kd.S kHa 40 wr w1.heap.size (fun _ => True) v8 (out ++ cur.toList)) ∧ Aside0 (Below w1.heap.size w1 wr))
   case atStart => exact ⟨_, 0, 0, 0, [], none, rfl, rfl, rfl, rfl, rfl, HR, Nat.zero_le _, ⟨⟨by omega, by omega, by omega, by simp, by simp, by simp⟩⟩, ⟨Kd.S_nil _ _ _ _ _⟩, ⟨Below.refl _ _⟩⟩
   case round =>
    clear HR
    obtain ⟨n, i, k, p, out, cur, rfl, rfl, rfl, rfl, rfl, HG, hpm, HOK, HS, HBL⟩ := hrel
    obtain ⟨n', rfl⟩ : ∃ n', n = n' + 1 := by
     cases n with
     | zero => exact absurd HG.out (by simp [rdiff])
     | succ n => exact ⟨n, rfl⟩
    obtain ⟨xs, hxs⟩ : ∃ xs, xs = out ++ cur.toList := ⟨_, rfl⟩
    rw [← hxs] at HS
    have HXS := Aside0.mk hxs
    clear hxs
    obtain ⟨A8, c8, rfl⟩ := Kd.S_slice HS.out
    obtain ⟨o1, o2, o3, o4, o5, o6⟩ := HOK.out
    have O4 := Aside0.mk o4
    have O5 := Aside0.mk o5
    have O6 := Aside0.mk o6
    clear o4 o5 o6
    go_upto_region 7 with fail
    go_cut [32] (fun s32 wc => s32 = .bool (rdiff.more l0 l1 i k) ∧ wc = wr)
    case first =>
     by_cases c1 : (i : Int) < (l0.length : Int)
     ·have c1b : decide ((i : Int) < (l0.length : Int)) = true := decide_eq_true c1
      go_wp2
      go_meet
      exact ⟨congrArg Value.bool (rdiff.more_t (by omega)).symm, rfl⟩
     ·have c1b : decide ((i : Int) < (l0.length : Int)) = false := decide_eq_false c1
      by_cases c2 : (k : Int) < (l1.length : Int)
      ·have c2b : decide ((k : Int) < (l1.length : Int)) = true := decide_eq_true c2
       go_wp2
       go_meet
       exact ⟨congrArg Value.bool (rdiff.more_t (by omega)).symm, rfl⟩
      ·have c2b : decide ((k : Int) < (l1.length : Int)) = false := decide_eq_false c2
       go_wp2
       go_meet
       exact ⟨congrArg Value.bool (rdiff.more_f (by omega)).symm, rfl⟩
    case rest =>
     obtain ⟨rfl, hwc⟩ := hcut
     subst wc
     by_cases hh : i < l0.length ∨ k < l1.length
     ·rw [rdiff.more_t hh]
      have HH := Aside0.mk hh
      clear hh
      go_upto_region 8 with fail
      go_cut [54] (fun s54 wc => s54 = .bool (rdiff.hit m i k p) ∧ wc = wr)
      case first =>
       by_cases hp : p < m.length
       ·have hpb : decide ((p : Int) < (m.length : Int)) = true := decide_eq_true (by omega)
        obtain ⟨ad, rfl, hx, hy⟩ := at_T45 (Kd.C_below HM.out HBL.out) (p : Int) (by omega) (by omega)
        have hmx : m[p]? = some (rd_T45 m (p : Int)) := by
         unfold rd_T45
         rw [Int.toNat_natCast]
         exact rdiff.getD_some m p _ hp
        obtain ⟨x, hxe⟩ : ∃ x, x = rd_T45 m (p : Int) := ⟨_, rfl⟩
        rw [← hxe] at hx hy hmx
        simp only [Int.toNat_natCast] at hx hy
        clear hxe
        have e1 : rdiff.hit m i k p = (decide (x.f0 = (i : Int)) && decide (x.f1 = (k : Int))) := by
         unfold rdiff.hit
         rw [hmx]
        have E1 := Aside0.mk e1
        clear e1 hmx
        by_cases q1 : x.f0 = (i : Int)
        ·have q1b : (x.f0 == (i : Int)) = true := by simpa using q1
         by_cases q2 : x.f1 = (k : Int)
         ·have q2b : (x.f1 == (k : Int)) = true := by simpa using q2
          have Q1 := Aside0.mk q1
          have Q2 := Aside0.mk q2
          clear q1 q2
          go_wp2
          go_meet
          exact ⟨congrArg Value.bool (by rw [E1.out, decide_eq_true Q1.out, decide_eq_true Q2.out]; rfl), rfl⟩
         ·have q2b : (x.f1 == (k : Int)) = false := by simpa using q2
          have Q2 := Aside0.mk q2
          clear q1 q2
          go_wp2
          go_meet
          exact ⟨congrArg Value.bool (by rw [E1.out, decide_eq_false Q2.out, Bool.and_false]), rfl⟩
        ·have q1b : (x.f0 == (i : Int)) = false := by simpa using q1
         have Q1 := Aside0.mk q1
         clear q1
         go_wp2
         go_meet
         exact ⟨congrArg Value.bool (by rw [E1.out, decide_eq_false Q1.out, Bool.false_and]), rfl⟩
       ·have hpb : decide ((p : Int) < (m.length : Int)) = false := decide_eq_false (by omega)
        have hpn : decide (p < m.length) = false := decide_eq_false hp
        have e1 : rdiff.hit m i k p = false := by
         unfold rdiff.hit
         rw [List.getElem?_eq_none (by omega)]
        have E1 := Aside0.mk e1
        clear e1
        go_wp2
        go_meet
        exact ⟨congrArg Value.bool E1.out.symm, rfl⟩
      case rest =>
       obtain ⟨rfl, hwc⟩ := hcut
       subst wc
       have hg := HG.out
       unfold rdiff at hg
       rw [if_pos HH.out] at hg
       cases hq : rdiff.hit m i k p with
       | true =>
        rw [hq, if_pos rfl] at hg
        have HG' := Aside0.mk hg
        have hp1 := rdiff.hit_lt hq
        clear hg hq
        go_wp2
        go_roundg n'
        case measure => omega
        case rel => exact ⟨n', i + 1, k + 1, p + 1, out ++ cur.toList, none, rfl, by go_num, by go_num, by go_num, rfl, HG', hp1, ⟨rdiff.ok_hit HOK.out⟩, ⟨by rw [Option.toList_none, List.append_nil, ← HXS.out]; exact HS.out⟩, HBL⟩
       | false =>
        rw [hq, if_neg Bool.false_ne_true] at hg
        have HG' := Aside0.mk hg
        clear hg hq
        obtain ⟨hc, hhc⟩ : ∃ hc, hc = cur.getD ⟨i, [], []⟩ := ⟨_, rfl⟩
        rw [← hhc] at O5 O6 HG'
        have HHC := Aside0.mk hhc
        clear hhc
        go_upto_if 61 with fail
        go_cut [8, 12] (fun s8 s12 wc => s12 = .bool false ∧ Aside0 (Kd.S kHa 40 wc w1.heap.size (fun _ => True) s8 (out ++ [hc])) ∧ Aside0 (Below w1.heap.size w1 wc))
        case first =>
         cases cur with
         | some y =>
          obtain rfl : hc = y := HHC.out
          go_wp2
          go_meet
          exact ⟨rfl, ⟨by rw [show out ++ [hc] = xs from HXS.out.symm]; exact HS.out⟩, HBL⟩
         | none =>
          obtain rfl : hc = ⟨i, [], []⟩ := HHC.out
          obtain rfl : xs = out := by rw [HXS.out, Option.toList_none, List.append_nil]
          go_wp2_with (at_builtin; refine Kd.S_append kHa (w0 := w1) w1.heap.size rfl (.tmp 62) (.tmp 65) 23 40 (.agg #[.int .i64 0, .slice none 0 0, .slice none 0 0]) 56 rfl Try.underlying23 infoHa rfl (by decide) (by omega) (.slice A8 xs.length c8) xs ⟨i, [], []⟩ [.int .i64 (i : Int), .slice none 0 0, .slice none 0 0] (fun _ => True) (fun _ => False) rfl rfl (kHa_mkM ⟨i, [], []⟩ (fun _ => True) (Kd.R_nil _ _ _ _ _) (Kd.R_nil _ _ _ _ _)) (fun _ h => h.elim) (fun _ _ => trivial) (Kd.S_mono HS.out (fun k hk => ⟨hk, fun h => h⟩)) HBL.out (Below.size HBL.out) (by have := O4.out; omega) ?_; intro v8' w5 hs5 hb5 hg5 hat5; have HS5 := Aside0.mk hs5; have HB5 := Aside0.mk hb5; clear hs5 hb5 hg5 hat5)
          go_meet
          exact ⟨rfl, HS5, HB5⟩
        case rest =>
         obtain ⟨rfl, HS', HBL'⟩ := hcut
         clear HS HBL
         obtain ⟨W, rfl⟩ : ∃ W, W = wc := ⟨_, rfl⟩
         obtain ⟨g, cap, e8, hbg, hlg, _⟩ := Kd.S_form HS'.out (by simp)
         subst e8
         have el : (out ++ [hc]).length = out.length + 1 := by simp
         rw [el] at HS'
         simp only [el]
         clear el
         have O4l : out.length ≤ NN := by have := O4.out; omega
         go_upto_region 14 with fail
         go_cut [88] (fun s88 wy => s88 = .bool (rdiff.old l0 m i p) ∧ wy = W)
         case first =>
          by_cases hi : (i : Int) < (l0.length : Int)
          ·have hib : decide ((i : Int) < (l0.length : Int)) = true := decide_eq_true hi
           have hi2 : decide (i < l0.length) = true := decide_eq_true (by omega)
           have HI2 := Aside0.mk hi2
           clear hi2
           by_cases hp : p < m.length
           ·have hpb : decide ((p : Int) < (m.length : Int)) = true := decide_eq_true (by omega)
            obtain ⟨ad, rfl, hx, hy⟩ := at_T45 (Kd.C_below HM.out HBL'.out) (p : Int) (by omega) (by omega)
            have hmx : m[p]? = some (rd_T45 m (p : Int)) := by
             unfold rd_T45
             rw [Int.toNat_natCast]
             exact rdiff.getD_some m p _ hp
            obtain ⟨x, hxe⟩ : ∃ x, x = rd_T45 m (p : Int) := ⟨_, rfl⟩
            rw [← hxe] at hx hy hmx
            simp only [Int.toNat_natCast] at hx hy
            clear hxe
            have e1 : rdiff.old l0 m i p = decide ((i : Int) < x.f0) := by
             unfold rdiff.old
             rw [hmx, HI2.out, Bool.true_and]
            have E1 := Aside0.mk e1
            have q0 : ((p : Int) == (m.length : Int)) = false := by
             have : ¬ (p : Int) = (m.length : Int) := by omega
             simpa using this
            have q0n : (p == m.length) = false := by
             have : ¬ p = m.length := by omega
             simpa using this
            have hpn : ¬ p = m.length := by omega
            clear e1 hmx hy
            by_cases q1 : (i : Int) < x.f0
            ·have q1b : decide ((i : Int) < x.f0) = true := decide_eq_true q1
             have Q1 := Aside0.mk q1b
             go_wp2
             go_meet
             exact ⟨congrArg Value.bool (by rw [E1.out, Q1.out]), rfl⟩
            ·have q1b : decide ((i : Int) < x.f0) = false := decide_eq_false q1
             have Q1 := Aside0.mk q1b
             go_wp2
             go_meet
             exact ⟨congrArg Value.bool (by rw [E1.out, Q1.out]), rfl⟩
           ·have hpe : p = m.length := by omega
            have e1 : rdiff.old l0 m i p = true := by
             unfold rdiff.old
             rw [List.getElem?_eq_none (by omega), HI2.out]
             rfl
            have E1 := Aside0.mk e1
            have q0 : ((p : Int) == (m.length : Int)) = true := by rw [hpe]; simp
            have q0n : (p == m.length) = true := by simpa using hpe
            clear e1 hp
            go_wp2
            go_meet
            exact ⟨congrArg Value.bool E1.out.symm, rfl⟩
          ·have hib : decide ((i : Int) < (l0.length : Int)) = false := decide_eq_false hi
           have e1 : rdiff.old l0 m i p = false := by
            unfold rdiff.old
            rw [decide_eq_false (by omega), Bool.false_and]
           have E1 := Aside0.mk e1
           clear e1
           go_wp2
           go_meet
           exact ⟨congrArg Value.bool E1.out.symm, rfl⟩
         case rest =>
          obtain ⟨rfl, hwc⟩ := hcut
          subst wc
          cases ho : rdiff.old l0 m i p with
          | true =>
           have hg := HG'.out
           rw [ho, if_pos rfl] at hg
           have hlt := rdiff.old_lt ho
           clear ho HG'
           go_upto_region 15 with fail
           have HLT := Aside0.mk hlt
           obtain ⟨v1, okr, hc8, hf8, hokr, hne9, hr9, hput⟩ := rdiff.lend1 (Kd.S_drew HS'.out)
           obtain ⟨A9, c9, rfl⟩ := Kd.R_slice hr9
           obtain ⟨b0, o0, rfl, hb0, hs0c⟩ := C_strings (Kd.C_below (Kd.C_below HR0.out HB1.out) HBL'.out) (by omega)
           have hx0 := hs0c i (l0.getD i ByteArray.empty) (rdiff.getD_some _ _ _ hlt)
           obtain ⟨x0, hx0e⟩ : ∃ x0, x0 = l0.getD i ByteArray.empty := ⟨_, rfl⟩
           rw [← hx0e] at hx0 hg
           have HG2 := Aside0.mk hg
           have C8 := Aside0.mk hc8
           have C9 := Aside0.mk (show W.drew.cell? ⟨b0, o0 + i, none⟩ = some (.string x0) from hx0)
           have L8 := Aside0.mk (show g < W.drew.heap.size from hlg)
           have L9 := Aside0.mk (show b0 < W.drew.heap.size from hb0)
           have HOKR := Aside0.mk hokr
           have HR9 := Aside0.mk hr9
           have HPUT := Aside0.mk hput
           have HBD := Aside0.mk (Below.trans HBL'.out (below_drew (Below.refl _ _)))
           have HSZ := Aside0.mk (show w1.heap.size ≤ W.drew.heap.size from (by have h_ := Below.size HBL'.out; exact h_))
           have HLN := Aside0.mk (show (hc.f1.length + 1) * 16 ≤ 140737488355328 by have := O5.out; omega)
           have HBG := Aside0.mk hbg
           have j0 : (0 : Int) ≤ (out.length : Int) := by omega
           have j1 : (out.length : Int) < (out.length : Int) + 1 := by omega
           have j2 : (0 : Int) ≤ (i : Int) := by omega
           have j3 : (i : Int) < (l0.length : Int) := by omega
           clear hc8 hf8 hokr hne9 hr9 hput hs0c hx0 hx0e hb0 hg hlg hbg hlt
           refine start_ (n := 16) (S := fun w' => w'.cell? ⟨g, out.length * 3 + 1, none⟩ = some (.slice A9 hc.f1.length c9) ∧ w'.cell? ⟨b0, o0 + i, none⟩ = some (.string x0)) (ds := [12, 15]) Bz0 (by kernel_rfl) rfl rfl ⟨C8.out, C9.out⟩ (fun hHeld => ?_)
           refine pu 0 89 Bz1 rfl rfl (by kernel_rfl) ?_
           refine pu 1 90 Bz2 rfl rfl (by kernel_rfl) ?_
           refine pu 2 91 Bz3 rfl rfl (by kernel_rfl) ?_
           refine pu 3 92 Bz4 rfl rfl (by kernel_rfl) ?_
           refine pu 4 93 Bz5 rfl rfl (by kernel_rfl) ?_
           refine pu 5 94 Bz6 rfl rfl (by kernel_rfl) ?_
           refine pu 7 96 Bz7 rfl rfl (by kernel_rfl) ?_
           refine pu 8 97 Bz8 rfl rfl (by kernel_rfl) ?_
           refine pu 9 98 Bz9 rfl rfl (by kernel_rfl) ?_
           refine take_ (i := 6) (N := some 95) (v := ?_) (a' := ?_) Bz10 rfl rfl (by kernel_rfl) (fun _ _ _ h => h) (Or.inl ⟨by rfl, ?_⟩) hHeld ?_ ?_; rotate_left; (focus rintro w' ⟨s0, s1⟩; go_simp; with_reducible rfl); rotate_left; (focus go_simp; rfl)
           refine take_ (i := 10) (N := some 99) (v := ?_) (a' := ?_) Bz11 rfl rfl (by kernel_rfl) (fun _ _ _ h => h) (Or.inl ⟨by rfl, ?_⟩) hHeld ?_ ?_; rotate_left; (focus rintro w' ⟨s0, s1⟩; go_simp; with_reducible rfl); rotate_left; (focus go_simp; rfl)
           refine one_ (i := 11) (N := some 100) Bz12 rfl rfl (by kernel_rfl) (by decide) (fun K hK => ?_)
           refine value_ (w1 := ?_) (v := ?_) (by rfl) rfl ?_ ?_
           rotate_left 2
           ·go_simp
            constructor
            ·rfl
            ·rfl
           refine hK.out _ _ ⟨(cell_keep ((Below.refl _ _).alloc (Nat.le_refl _) _) (by exact L8.out) hHeld.1), (cell_keep ((Below.refl _ _).alloc (Nat.le_refl _) _) (by exact L9.out) hHeld.2)⟩ (fun hHeld => ?_)
           clear hK K
           refine norm_ (a' := ?_) ?_ ?_
           rotate_left
           ·show Act.put _ (some 100) _ = _
            simp only [Act.put, List.setIfInBounds_toArray, List.set_cons_zero, List.set_cons_succ, i64_w, i32_w]
            rfl
           refine last_ (i := 12) (N := some 101) Bz13 rfl rfl (by kernel_rfl) (by decide) (fun K hK => ?_)
           refine Kd.R_append_step Kd.string (w0 := w1) w1.heap.size (by rfl) (.tmp 95) (.tmp 100) 22 9 (.string ⟨#[]⟩) 16 (by rfl) Try.underlying22 info9 rfl (by decide) (by omega) (.slice A9 hc.f1.length c9) hc.f1 x0 [.string x0] okr (fun _ => False) (by rfl) (by rfl) rfl (fun _ h_ => h_.elim) HOKR.out HR9.out HBD.out HSZ.out HLN.out ?_
           intro v9 w5 hr9 hb9 hg9 hat9
           have HR9' := Aside0.mk hr9
           have HB9 := Aside0.mk hb9
           have hp9 := HPUT.out w5 v9 _ hg9 hr9
           have HP9 := Aside0.mk hp9.2.2.1
           have hc9 := hp9.1
           have hf9 := hp9.2.1
           obtain ⟨Av9, cv9, rfl⟩ := Kd.R_slice hr9
           clear hr9 hb9 hg9 hat9 hp9
           refine hK.out _ _ ?_
           clear hK K
           refine norm_ (a' := ?_) ?_ ?_
           rotate_left
           ·show Act.put _ (some 101) _ = _
            simp only [Act.put, List.setIfInBounds_toArray, List.set_cons_zero, List.set_cons_succ, i64_w, i32_w]
            rfl
           refine pu 13 102 Bz14 rfl rfl (by kernel_rfl) ?_
           refine pu 14 103 Bz15 rfl rfl (by kernel_rfl) ?_
           refine last_ (i := 15) (N := none) Bz16 rfl rfl (by kernel_rfl) (by decide) (fun K hK => ?_)
           refine skip_ (w1 := ?_) (by rfl) rfl ?_ ?_
           rotate_left
           ·go_simp
            rfl
           refine hK.out _ _ ?_
           clear hK K
           refine done_ (by kernel_rfl) ?_
           go_wp2
           go_roundg n'
           case measure => omega
           case rel => exact ⟨n', i + 1, k, p, out, some ⟨hc.f0, hc.f1 ++ [x0], hc.f2⟩, rfl, by go_num, rfl, rfl, rfl, HG2, hpm, ⟨rdiff.ok_one HOK.out _ (by omega) (by omega) (by rw [← HHC.out]; simp) (by rw [← HHC.out]; simp)⟩, ⟨by have h_ := HP9.out; rw [List.length_append] at h_; exact h_⟩, ⟨HB9.out.setCell (p := ⟨g, out.length * 3 + 1, none⟩) (by exact HBG.out) _⟩⟩
          | false =>
           have hg := HG'.out
           rw [ho, if_neg Bool.false_ne_true] at hg
           clear ho HG'
           split at hg
           ·rename_i hlt
            go_upto_region 17 with fail
            have HLT := Aside0.mk hlt
            obtain ⟨v1, okr, hc8, hf8, hokr, hne9, hr9, hput⟩ := rdiff.lend2 (Kd.S_drew HS'.out)
            obtain ⟨A9, c9, rfl⟩ := Kd.R_slice hr9
            obtain ⟨b0, o0, rfl, hb0, hs0c⟩ := C_strings (Kd.C_below (Kd.C_below HR1.out HB1.out) HBL'.out) (by omega)
            have hx0 := hs0c k (l1.getD k ByteArray.empty) (rdiff.getD_some _ _ _ hlt)
            obtain ⟨x0, hx0e⟩ : ∃ x0, x0 = l1.getD k ByteArray.empty := ⟨_, rfl⟩
            rw [← hx0e] at hx0 hg
            have HG2 := Aside0.mk hg
            have C8 := Aside0.mk hc8
            have C9 := Aside0.mk (show W.drew.cell? ⟨b0, o0 + k, none⟩ = some (.string x0) from hx0)
            have L8 := Aside0.mk (show g < W.drew.heap.size from hlg)
            have L9 := Aside0.mk (show b0 < W.drew.heap.size from hb0)
            have HOKR := Aside0.mk hokr
            have HR9 := Aside0.mk hr9
            have HPUT := Aside0.mk hput
            have HBD := Aside0.mk (Below.trans HBL'.out (below_drew (Below.refl _ _)))
            have HSZ := Aside0.mk (show w1.heap.size ≤ W.drew.heap.size from (by have h_ := Below.size HBL'.out; exact h_))
            have HLN := Aside0.mk (show (hc.f2.length + 1) * 16 ≤ 140737488355328 by have := O6.out; omega)
            have HBG := Aside0.mk hbg
            have j0 : (0 : Int) ≤ (out.length : Int) := by omega
            have j1 : (out.length : Int) < (out.length : Int) + 1 := by omega
            have j2 : (0 : Int) ≤ (k : Int) := by omega
            have j3 : (k : Int) < (l1.length : Int) := by omega
            clear hc8 hf8 hokr hne9 hr9 hput hs0c hx0 hx0e hb0 hg hlg hbg hlt
            refine start_ (n := 16) (S := fun w' => w'.cell? ⟨g, out.length * 3 + 2, none⟩ = some (.slice A9 hc.f2.length c9) ∧ w'.cell? ⟨b0, o0 + k, none⟩ = some (.string x0)) (ds := [12, 15]) Bz0 (by kernel_rfl) rfl rfl ⟨C8.out, C9.out⟩ (fun hHeld => ?_)
            refine pu 0 106 Bz1 rfl rfl (by kernel_rfl) ?_
            refine pu 1 107 Bz2 rfl rfl (by kernel_rfl) ?_
            refine pu 2 108 Bz3 rfl rfl (by kernel_rfl) ?_
            refine pu 3 109 Bz4 rfl rfl (by kernel_rfl) ?_
            refine pu 4 110 Bz5 rfl rfl (by kernel_rfl) ?_
            refine pu 5 111 Bz6 rfl rfl (by kernel_rfl) ?_
            refine pu 7 113 Bz7 rfl rfl (by kernel_rfl) ?_
            refine pu 8 114 Bz8 rfl rfl (by kernel_rfl) ?_
            refine pu 9 115 Bz9 rfl rfl (by kernel_rfl) ?_
            refine take_ (i := 6) (N := some 112) (v := ?_) (a' := ?_) Bz10 rfl rfl (by kernel_rfl) (fun _ _ _ h => h) (Or.inl ⟨by rfl, ?_⟩) hHeld ?_ ?_; rotate_left; (focus rintro w' ⟨s0, s1⟩; go_simp; with_reducible rfl); rotate_left; (focus go_simp; rfl)
            refine take_ (i := 10) (N := some 116) (v := ?_) (a' := ?_) Bz11 rfl rfl (by kernel_rfl) (fun _ _ _ h => h) (Or.inl ⟨by rfl, ?_⟩) hHeld ?_ ?_; rotate_left; (focus rintro w' ⟨s0, s1⟩; go_simp; with_reducible rfl); rotate_left; (focus go_simp; rfl)
            refine one_ (i := 11) (N := some 117) Bz12 rfl rfl (by kernel_rfl) (by decide) (fun K hK => ?_)
            refine value_ (w1 := ?_) (v := ?_) (by rfl) rfl ?_ ?_
            rotate_left 2
            ·go_simp
             constructor
             ·rfl
             ·rfl
            refine hK.out _ _ ⟨(cell_keep ((Below.refl _ _).alloc (Nat.le_refl _) _) (by exact L8.out) hHeld.1), (cell_keep ((Below.refl _ _).alloc (Nat.le_refl _) _) (by exact L9.out) hHeld.2)⟩ (fun hHeld => ?_)
            clear hK K
            refine norm_ (a' := ?_) ?_ ?_
            rotate_left
            ·show Act.put _ (some 117) _ = _
             simp only [Act.put, List.setIfInBounds_toArray, List.set_cons_zero, List.set_cons_succ, i64_w, i32_w]
             rfl
            refine last_ (i := 12) (N := some 118) Bz13 rfl rfl (by kernel_rfl) (by decide) (fun K hK => ?_)
            refine Kd.R_append_step Kd.string (w0 := w1) w1.heap.size (by rfl) (.tmp 112) (.tmp 117) 22 9 (.string ⟨#[]⟩) 16 (by rfl) Try.underlying22 info9 rfl (by decide) (by omega) (.slice A9 hc.f2.length c9) hc.f2 x0 [.string x0] okr (fun _ => False) (by rfl) (by rfl) rfl (fun _ h_ => h_.elim) HOKR.out HR9.out HBD.out HSZ.out HLN.out ?_
            intro v9 w5 hr9 hb9 hg9 hat9
            have HR9' := Aside0.mk hr9
            have HB9 := Aside0.mk hb9
            have hp9 := HPUT.out w5 v9 _ hg9 hr9
            have HP9 := Aside0.mk hp9.2.2.1
            have hc9 := hp9.1
            have hf9 := hp9.2.1
            obtain ⟨Av9, cv9, rfl⟩ := Kd.R_slice hr9
            clear hr9 hb9 hg9 hat9 hp9
            refine hK.out _ _ ?_
            clear hK K
            refine norm_ (a' := ?_) ?_ ?_
            rotate_left
            ·show Act.put _ (some 118) _ = _
             simp only [Act.put, List.setIfInBounds_toArray, List.set_cons_zero, List.set_cons_succ, i64_w, i32_w]
             rfl
            refine pu 13 119 Bz14 rfl rfl (by kernel_rfl) ?_
            refine pu 14 120 Bz15 rfl rfl (by kernel_rfl) ?_
            refine last_ (i := 15) (N := none) Bz16 rfl rfl (by kernel_rfl) (by decide) (fun K hK => ?_)
            refine skip_ (w1 := ?_) (by rfl) rfl ?_ ?_
            rotate_left
            ·go_simp
             rfl
            refine hK.out _ _ ?_
            clear hK K
            refine done_ (by kernel_rfl) ?_
            go_wp2
            go_roundg n'
            case measure => omega
            case rel => exact ⟨n', i, k + 1, p, out, some ⟨hc.f0, hc.f1, hc.f2 ++ [x0]⟩, rfl, rfl, by go_num, rfl, rfl, HG2, hpm, ⟨rdiff.ok_one HOK.out _ (by omega) (by omega) (by rw [← HHC.out]; simp) (by rw [← HHC.out]; simp)⟩, ⟨by have h_ := HP9.out; rw [List.length_append] at h_; exact h_⟩, ⟨HB9.out.setCell (p := ⟨g, out.length * 3 + 2, none⟩) (by exact HBG.out) _⟩⟩
           ·cases hg
     ·rw [rdiff.more_f hh]
      have hg := HG.out
      unfold rdiff at hg
      rw [if_neg hh] at hg
      obtain rfl := Option.some.inj hg
      clear hg hh
      go_wp2
      go_ret2
      refine ⟨_, rfl, ?_, Below.trans HB1.out (Below.mono HBL.out (Below.size HB1.out))⟩
      rw [← HXS.out]
      exact Kd.S_lower (kHa_weakS HS.out) (Below.size HB1.out)
  ·cases h
 ·rw [if_neg he] at h
  obtain ⟨rfl, rfl⟩ := Prod.mk.inj (Option.some.inj h)
  clear h
  have e1 : (e == 0) = false := by simpa using he
  have e2 : (e != 0) = true := by simpa using he
  have HR0 := Aside0.mk hr0
  have HR1 := Aside0.mk hr1
  clear hr0 hr1
  go_enter Try.func8, Try.ntmps8
  go_wp2_with (go_at_call 18; (with_reducible refine (sidingref14_Best.calls k A0 c0 l0 A1 c1 l1 m e _ HR0.out hc0 HR1.out hc1 HB.out).mono ?_); rintro e_ w1 ⟨v6, rfl, hv6, hb1⟩; obtain ⟨Am, cm, rfl⟩ := Kd.R_slice hv6; have HB1 := Aside0.mk hb1; clear hv6 hb1)
  go_ret2
  exact ⟨_, rfl, Kd.S_nil _ _ _ _ _, HB1.out⟩
end Go.Proofs.Ytmgbbmjfjnhmiaa.Pr
end
section
namespace Go.Proofs.Ytmgbbmjfjnhmiaa.Pr
open Go.RowKit Go.Proofs.YtmgbbmjfjnhmiaaW.PrintWords Go.Proofs.YtmgbbmjfjnhmiaaW.PrintLast Go.Proofs.YtmgbbmjfjnhmiaaW.PrintMore
attribute [local go_sem] max2_int min2_int max_two min_two max_three min_three max_four min_four   
def slices_Equal_string_string.l0 : Nat → List ByteArray → List ByteArray → Int → Int → Option (Bool)
 | 0, _, _, _, _ => none
 | k + 1, x0, x1, x12, x13 => if x13 < x12 then (if 0 ≤ x13 then (if x13 < (x0.length : Int) then (if x13 < (x1.length : Int) then (if (rdOf ByteArray.empty x0 x13).toList = (rdOf ByteArray.empty x1 x13).toList then (slices_Equal_string_string.l0 k x0 x1 x12 (wrap64 (x13 + 1))) else (some false)) else (none)) else (none)) else (none)) else (some true)
def slices_Equal_string_string.f (k : Nat) (l0 : List ByteArray) (l1 : List ByteArray) : Option (Bool) := if (l0.length : Int) = (l1.length : Int) then (slices_Equal_string_string.l0 k l0 l1 (l0.length : Int) 0) else (some false)
set_option maxHeartbeats 8000000 in
set_option maxRecDepth 100000 in
theorem slices_Equal_string_string.calls (k : Nat) (A0 : Option Addr) (c0 : Nat) (l0 : List ByteArray) (A1 : Option Addr) (c1 : Nat) (l1 : List ByteArray) (r : Bool) (w : World) (hr0 : Kd.C Kd.string w A0 l0.length l0) (hc0 : l0.length ≤ c0) (hr1 : Kd.C Kd.string w A1 l1.length l1) (hc1 : l1.length ≤ c1) (h : slices_Equal_string_string.f k l0 l1 = some r) :
  Calls Try.prog 32 #[.slice A0 l0.length c0, .slice A1 l1.length c1] w fun e w' => e = .returned (.bool r) ∧ Drawn0 w w' := by
 have HR0 := Aside0.mk hr0
 have HC0 := Aside0.mk hc0
 clear hr0 hc0
 have HR1 := Aside0.mk hr1
 have HC1 := Aside0.mk hc1
 clear hr1 hc1
 have H : (if (l0.length : Int) = (l1.length : Int) then (slices_Equal_string_string.l0 k l0 l1 (l0.length : Int) 0) else (some false)) = some r := h
 clear h
 by_cases c3 : (l0.length : Int) = (l1.length : Int)
 ·rw [if_pos c3] at H
  have c3b0 : ((l0.length : Int) == (l1.length : Int)) = true := beq_iff_eq.mpr c3
  have c3b1 : ((l0.length : Int) != (l1.length : Int)) = false := bne_eq_false_iff_eq.mpr c3
  have c3b2 : (l0.length == l1.length) = true := by first | simpa using c3 | (simp at c3 ⊢; omega)
  clear c3
  have H' := Aside0.mk H
  clear H
  go_enter Try.func32, Try.ntmps32
  go_wp2
  repeat (go_quiet (fail); try go_wp2)
  go_loopg [13] k (fun kq v13 w' => ∃ (x13_1 : Int), v13 = .int .i64 x13_1 ∧ Aside0 (slices_Equal_string_string.l0 kq l0 l1 (l0.length : Int) x13_1 = some r) ∧ Aside0 (kq ≤ k) ∧ Drawn0 w w')
  case atStart => exact ⟨(0), (by first | rfl | (simp; done) | (simp [*]; done)), H', ⟨Nat.le_refl _⟩, by repeat (first | exact Drawn0.refl _ | apply Drawn0.step)⟩
  case round =>
   clear H'
   try clear c1
   try clear p2
   try clear c3
   try clear c3b0
   try clear c3b1
   try clear c3b2
   obtain ⟨x13_1, rfl, HA, HK1, ⟨m1, rfl⟩⟩ := hrel
   cases gk with
   | zero => exact absurd HA.out (by simp [slices_Equal_string_string.l0])
   | succ k1 =>
    have H := HA.out
    clear HA
    simp only [slices_Equal_string_string.l0] at H
    by_cases c4 : x13_1 < (l0.length : Int)
    ·rw [if_pos c4] at H
     have c4b0 : decide (x13_1 < (l0.length : Int)) = true := decide_eq_true c4
     clear c4
     by_cases c5 : 0 ≤ x13_1
     ·rw [if_pos c5] at H
      have c5b0 : decide (0 ≤ x13_1) = true := decide_eq_true c5
      clear c5
      by_cases c6 : x13_1 < (l0.length : Int)
      ·rw [if_pos c6] at H
       have c6b0 : decide (x13_1 < (l0.length : Int)) = true := decide_eq_true c6
       clear c6
       by_cases c7 : x13_1 < (l1.length : Int)
       ·rw [if_pos c7] at H
        have c7b0 : decide (x13_1 < (l1.length : Int)) = true := decide_eq_true c7
        clear c7
        by_cases c8 : (rdOf ByteArray.empty l0 x13_1).toList = (rdOf ByteArray.empty l1 x13_1).toList
        ·rw [if_pos c8] at H
         have c8b0 : ((rdOf ByteArray.empty l0 x13_1).toList == (rdOf ByteArray.empty l1 x13_1).toList) = true := beq_iff_eq.mpr c8
         have c8b1 : ((rdOf ByteArray.empty l0 x13_1).toList != (rdOf ByteArray.empty l1 x13_1).toList) = false := bne_eq_false_iff_eq.mpr c8
         clear c8
         have H' := Aside0.mk H
         clear H
         have p337 : 0 ≤ (x13_1 : Int) := of_decide_eq_true (by first | (with_reducible assumption) | assumption)
         have q337 : x13_1 < (l0.length : Int) := of_decide_eq_true (by first | (with_reducible assumption) | assumption)
         obtain ⟨ad337, e337, hx337_0⟩ := Kd.at_string HR0.out x13_1 p337 q337
         cases e337
         replace p337 := eq_true p337
         replace q337 := eq_true q337
         have p338 : 0 ≤ (x13_1 : Int) := of_decide_eq_true (by first | (with_reducible assumption) | assumption)
         have q338 : x13_1 < (l1.length : Int) := of_decide_eq_true (by first | (with_reducible assumption) | assumption)
         obtain ⟨ad338, e338, hx338_0⟩ := Kd.at_string HR1.out x13_1 p338 q338
         cases e338
         replace p338 := eq_true p338
         replace q338 := eq_true q338
         go_wp2
         repeat (go_quiet (fail); try go_wp2)
         go_roundg k1
         case measure => have := HK1.out; omega
         case rel => exact ⟨(wrap64 (x13_1 + 1)), (by first | rfl | (simp; done) | (simp [*]; done)), H', ⟨by have := HK1.out; omega⟩, by repeat (first | exact Drawn0.refl _ | apply Drawn0.step)⟩
        ·rw [if_neg c8] at H
         have c8b0 : ((rdOf ByteArray.empty l0 x13_1).toList == (rdOf ByteArray.empty l1 x13_1).toList) = false := beq_eq_false_iff_ne.mpr c8
         have c8b1 : ((rdOf ByteArray.empty l0 x13_1).toList != (rdOf ByteArray.empty l1 x13_1).toList) = true := bne_iff_ne.mpr c8
         obtain rfl := Option.some.inj H
         have p337 : 0 ≤ (x13_1 : Int) := of_decide_eq_true (by first | (with_reducible assumption) | assumption)
         have q337 : x13_1 < (l0.length : Int) := of_decide_eq_true (by first | (with_reducible assumption) | assumption)
         obtain ⟨ad337, e337, hx337_0⟩ := Kd.at_string HR0.out x13_1 p337 q337
         cases e337
         replace p337 := eq_true p337
         replace q337 := eq_true q337
         have p338 : 0 ≤ (x13_1 : Int) := of_decide_eq_true (by first | (with_reducible assumption) | assumption)
         have q338 : x13_1 < (l1.length : Int) := of_decide_eq_true (by first | (with_reducible assumption) | assumption)
         obtain ⟨ad338, e338, hx338_0⟩ := Kd.at_string HR1.out x13_1 p338 q338
         cases e338
         replace p338 := eq_true p338
         replace q338 := eq_true q338
         go_wp2
         repeat (go_quiet (fail); try go_wp2)
         go_ret
         exact ⟨by first | rfl | (simp; done) | (simp [*]; done), by repeat (first | exact Drawn0.refl _ | apply Drawn0.step)⟩
       ·rw [if_neg c7] at H
        exact absurd H (by simp)
      ·rw [if_neg c6] at H
       exact absurd H (by simp)
     ·rw [if_neg c5] at H
      exact absurd H (by simp)
    ·rw [if_neg c4] at H
     have c4b0 : decide (x13_1 < (l0.length : Int)) = false := decide_eq_false c4
     clear c4
     obtain rfl := Option.some.inj H
     go_wp2
     repeat (go_quiet (fail); try go_wp2)
     go_ret
     exact ⟨by first | rfl | (simp; done) | (simp [*]; done), by repeat (first | exact Drawn0.refl _ | apply Drawn0.step)⟩
 ·rw [if_neg c3] at H
  have c3b0 : ((l0.length : Int) == (l1.length : Int)) = false := beq_eq_false_iff_ne.mpr c3
  have c3b1 : ((l0.length : Int) != (l1.length : Int)) = true := bne_iff_ne.mpr c3
  have c3b2 : (l0.length == l1.length) = false := by first | simpa using c3 | (simp at c3 ⊢; omega)
  obtain rfl := Option.some.inj H
  go_enter Try.func32, Try.ntmps32
  go_wp2
  repeat (go_quiet (fail); try go_wp2)
  go_ret
  exact ⟨by first | rfl | (simp; done) | (simp [*]; done), by repeat (first | exact Drawn0.refl _ | apply Drawn0.step)⟩
end Go.Proofs.Ytmgbbmjfjnhmiaa.Pr
end
section
namespace Go.Proofs.Ytmgbbmjfjnhmiaa.Pr
open Go.RowKit Go.Proofs.YtmgbbmjfjnhmiaaW.PrintWords Go.Proofs.YtmgbbmjfjnhmiaaW.PrintLast Go.Proofs.YtmgbbmjfjnhmiaaW.PrintMore
attribute [local go_sem] max2_int min2_int max_two min_two max_three min_three max_four min_four   
def hunk_fits.l0 : Nat → List ByteArray → List (S40) → Int → Int → Option (Bool)
  | 0, _, _, _, _ => none
  | k + 1, x0, x8, x9, x10 => if x10 < x9 then (if 0 ≤ x10 then (if x10 < (x8.length : Int) then (if (wrap64 (((rd_T40 x8 x10).f0) + (((rd_T40 x8 x10).f1).length : Int))) > (x0.length : Int) then (some false) else (if 0 ≤ ((rd_T40 x8 x10).f0) then (if ((rd_T40 x8 x10).f0) ≤ (wrap64 (((rd_T40 x8 x10).f0) + (((rd_T40 x8 x10).f1).length : Int))) then (if (wrap64 (((rd_T40 x8 x10).f0) + (((rd_T40 x8 x10).f1).length : Int))) ≤ (x0.length : Int) then ((slices_Equal_string_string.f k ((x0.take ((wrap64 (((rd_T40 x8 x10).f0) + (((rd_T40 x8 x10).f1).length : Int))) : Int).toNat).drop (((rd_T40 x8 x10).f0) : Int).toNat) ((rd_T40 x8 x10).f1)).bind fun t342 => (if t342 = true then (hunk_fits.l0 k x0 x8 x9 (wrap64 (x10 + 1))) else (some false))) else (none)) else (none)) else (none))) else (none)) else (none)) else (some true)
def hunk_fits.f (k : Nat) (l0 : List ByteArray) (l1 : List (S40)) : Option (Bool) := hunk_fits.l0 k l0 l1 (l1.length : Int) 0
set_option maxHeartbeats 8000000 in
set_option maxRecDepth 100000 in
theorem hunk_fits.calls (k : Nat) (A0 : Option Addr) (c0 : Nat) (l0 : List ByteArray) (A1 : Option Addr) (c1 : Nat) (l1 : List (S40)) (r : Bool) (w : World) (hr0 : Kd.C Kd.string w A0 l0.length l0) (hc0 : l0.length ≤ c0) (hr1 : Kd.C k40 w A1 l1.length l1) (hc1 : l1.length ≤ c1) (h : hunk_fits.f k l0 l1 = some r) :
  Calls Try.prog 20 #[.slice A0 l0.length c0, .slice A1 l1.length c1] w fun e w' => e = .returned (.bool r) ∧ Below w.heap.size w w' := by
 have hu40 := Try.underlying40
 have HR0 := Aside0.mk hr0
 have HC0 := Aside0.mk hc0
 clear hr0 hc0
 have HR1 := Aside0.mk hr1
 have HC1 := Aside0.mk hc1
 clear hr1 hc1
 have HB := Aside0.mk (Below.refl w.heap.size w)
 have H : (hunk_fits.l0 k l0 l1 (l1.length : Int) 0) = some r := h
 clear h
 have H' := Aside0.mk H
 clear H
 go_enter Try.func20, Try.ntmps20
 go_wp2
 repeat (go_quiet (fail); try go_wp2)
 go_loopg [10] k (fun kq v10 w' => ∃ (x10_1 : Int), v10 = .int .i64 x10_1 ∧ Aside0 (hunk_fits.l0 kq l0 l1 (l1.length : Int) x10_1 = some r) ∧ Aside0 (kq ≤ k) ∧ Aside0 (Below w.heap.size w w'))
 case atStart => exact ⟨(0), (by first | rfl | (simp; done) | (simp [*]; done)), H', ⟨Nat.le_refl _⟩, ⟨by repeat (first | (with_reducible first | exact HB.out | apply below_alloc | apply pw_below_drewN | apply below_drew1) | exact HB.out)⟩⟩
 case round =>
  clear H'
  try clear c1
  try clear c2
  try clear p2
  obtain ⟨x10_1, rfl, HA, HK1, HB⟩ := hrel
  cases gk with
  | zero => exact absurd HA.out (by simp [hunk_fits.l0])
  | succ k1 =>
   have H := HA.out
   clear HA
   simp only [hunk_fits.l0] at H
   by_cases c3 : x10_1 < (l1.length : Int)
   ·rw [if_pos c3] at H
    have c3b0 : decide (x10_1 < (l1.length : Int)) = true := decide_eq_true c3
    clear c3
    by_cases c4 : 0 ≤ x10_1
    ·rw [if_pos c4] at H
     have c4b0 : decide (0 ≤ x10_1) = true := decide_eq_true c4
     clear c4
     by_cases c5 : x10_1 < (l1.length : Int)
     ·rw [if_pos c5] at H
      have c5b0 : decide (x10_1 < (l1.length : Int)) = true := decide_eq_true c5
      clear c5
      by_cases c6 : (wrap64 (((rd_T40 l1 x10_1).f0) + (((rd_T40 l1 x10_1).f1).length : Int))) > (l0.length : Int)
      ·rw [if_pos c6] at H
       have c6b0 : decide ((l0.length : Int) < (wrap64 (((rd_T40 l1 x10_1).f0) + (((rd_T40 l1 x10_1).f1).length : Int)))) = true := decide_eq_true c6
       clear c6
       obtain rfl := Option.some.inj H
       have p339 : 0 ≤ (x10_1 : Int) := of_decide_eq_true (by first | (with_reducible assumption) | assumption)
       have q339 : x10_1 < (l1.length : Int) := of_decide_eq_true (by first | (with_reducible assumption) | assumption)
       obtain ⟨ad339, A339_1, c339_1, A339_2, c339_2, e339, hx339_0, hx339_1, hx339_2, hl339_1, hi339_1, hl339_2, hi339_2⟩ := at_T40 HR1.out x10_1 p339 q339
       cases e339
       replace hx339_0 := (HB.out.cell (World.block_lt_of_cell? w _ hx339_0)).trans hx339_0
       replace hx339_1 := (HB.out.cell (World.block_lt_of_cell? w _ hx339_1)).trans hx339_1
       replace hx339_2 := (HB.out.cell (World.block_lt_of_cell? w _ hx339_2)).trans hx339_2
       have HR339_1 := Aside0.mk hi339_1
       have HC339_1 := Aside0.mk hl339_1
       clear hi339_1 hl339_1
       have HR339_2 := Aside0.mk hi339_2
       have HC339_2 := Aside0.mk hl339_2
       clear hi339_2 hl339_2
       replace p339 := eq_true p339
       replace q339 := eq_true q339
       go_wp2_with (first | ((with_reducible refine gate_dst (N := 6) rfl ?_); refine box_event ?hg (N := 6) ?hd (cs := #[.int .i64 0, .slice none 0 0, .slice none 0 0]) (t := 40) ?hr ?_; (case hd => rfl); (case hg => rfl); (case hr => first | (go_simp; done) | (go_simp; rfl)); intro gb340 hg w7 hbox hb; have n0_ := Aside0.mk (below_step (by repeat (first | (with_reducible first | exact HB.out | apply below_alloc | apply pw_below_drewN | apply below_drew1) | exact HB.out)) hb); have n1_ := Aside0.mk (hbox); have n2_ := Aside0.mk ((by rw [hg]; exact (below_size (by repeat (first | (with_reducible first | exact HB.out | apply below_alloc | apply pw_below_drewN | apply below_drew1) | exact HB.out))) : w.heap.size ≤ gb340)); have n3_ := Aside0.mk ((by rw [hg]; exact (below_size (by repeat (first | (with_reducible first | exact HB.out | apply below_alloc | apply pw_below_drewN | apply below_drew1) | exact HB.out))) : w.heap.size ≤ gb340)); clear HB; have HB := n0_; have BK340 := n1_; have GW340 := n2_; have GE340 := n3_; clear n0_ n1_ n2_ n3_; clear hb hbox hg; have hcz8_0 : w7.cell? ⟨gb340, 0, none⟩ = some (.int .i64 0) := (blk_cell BK340.out 0).trans rfl; have hcz8_1 : w7.cell? ⟨gb340, 1, none⟩ = some (.slice none 0 0) := (blk_cell BK340.out 1).trans rfl; have hcz8_2 : w7.cell? ⟨gb340, 2, none⟩ = some (.slice none 0 0) := (blk_cell BK340.out 2).trans rfl; have hfz8_0 := blk_frozen BK340.out 0; have hfz8_1 := blk_frozen BK340.out 1; have hfz8_2 := blk_frozen BK340.out 2))
       repeat (go_quiet (first | ((with_reducible refine gate_dst (N := 6) rfl ?_); refine box_event ?hg (N := 6) ?hd (cs := #[.int .i64 0, .slice none 0 0, .slice none 0 0]) (t := 40) ?hr ?_; (case hd => rfl); (case hg => rfl); (case hr => first | (go_simp; done) | (go_simp; rfl)); intro gb340 hg w7 hbox hb; have n0_ := Aside0.mk (below_step (by repeat (first | (with_reducible first | exact HB.out | apply below_alloc | apply pw_below_drewN | apply below_drew1) | exact HB.out)) hb); have n1_ := Aside0.mk (hbox); have n2_ := Aside0.mk ((by rw [hg]; exact (below_size (by repeat (first | (with_reducible first | exact HB.out | apply below_alloc | apply pw_below_drewN | apply below_drew1) | exact HB.out))) : w.heap.size ≤ gb340)); have n3_ := Aside0.mk ((by rw [hg]; exact (below_size (by repeat (first | (with_reducible first | exact HB.out | apply below_alloc | apply pw_below_drewN | apply below_drew1) | exact HB.out))) : w.heap.size ≤ gb340)); clear HB; have HB := n0_; have BK340 := n1_; have GW340 := n2_; have GE340 := n3_; clear n0_ n1_ n2_ n3_; clear hb hbox hg; have hcz8_0 : w7.cell? ⟨gb340, 0, none⟩ = some (.int .i64 0) := (blk_cell BK340.out 0).trans rfl; have hcz8_1 : w7.cell? ⟨gb340, 1, none⟩ = some (.slice none 0 0) := (blk_cell BK340.out 1).trans rfl; have hcz8_2 : w7.cell? ⟨gb340, 2, none⟩ = some (.slice none 0 0) := (blk_cell BK340.out 2).trans rfl; have hfz8_0 := blk_frozen BK340.out 0; have hfz8_1 := blk_frozen BK340.out 1; have hfz8_2 := blk_frozen BK340.out 2)); try go_wp2_with (first | ((with_reducible refine gate_dst (N := 6) rfl ?_); refine box_event ?hg (N := 6) ?hd (cs := #[.int .i64 0, .slice none 0 0, .slice none 0 0]) (t := 40) ?hr ?_; (case hd => rfl); (case hg => rfl); (case hr => first | (go_simp; done) | (go_simp; rfl)); intro gb340 hg w7 hbox hb; have n0_ := Aside0.mk (below_step (by repeat (first | (with_reducible first | exact HB.out | apply below_alloc | apply pw_below_drewN | apply below_drew1) | exact HB.out)) hb); have n1_ := Aside0.mk (hbox); have n2_ := Aside0.mk ((by rw [hg]; exact (below_size (by repeat (first | (with_reducible first | exact HB.out | apply below_alloc | apply pw_below_drewN | apply below_drew1) | exact HB.out))) : w.heap.size ≤ gb340)); have n3_ := Aside0.mk ((by rw [hg]; exact (below_size (by repeat (first | (with_reducible first | exact HB.out | apply below_alloc | apply pw_below_drewN | apply below_drew1) | exact HB.out))) : w.heap.size ≤ gb340)); clear HB; have HB := n0_; have BK340 := n1_; have GW340 := n2_; have GE340 := n3_; clear n0_ n1_ n2_ n3_; clear hb hbox hg; have hcz8_0 : w7.cell? ⟨gb340, 0, none⟩ = some (.int .i64 0) := (blk_cell BK340.out 0).trans rfl; have hcz8_1 : w7.cell? ⟨gb340, 1, none⟩ = some (.slice none 0 0) := (blk_cell BK340.out 1).trans rfl; have hcz8_2 : w7.cell? ⟨gb340, 2, none⟩ = some (.slice none 0 0) := (blk_cell BK340.out 2).trans rfl; have hfz8_0 := blk_frozen BK340.out 0; have hfz8_1 := blk_frozen BK340.out 1; have hfz8_2 := blk_frozen BK340.out 2)))
       go_ret
       exact ⟨by first | rfl | (simp [errW_none, errW_some] <;> rfl) | (simp [*, errW_none, errW_some] <;> rfl), by repeat (first | (with_reducible first | exact HB.out | apply below_alloc | apply pw_below_drewN | apply below_drew1 | refine below_set ?_ GE340.out) | exact HB.out)⟩
      ·rw [if_neg c6] at H
       have c6b0 : decide ((l0.length : Int) < (wrap64 (((rd_T40 l1 x10_1).f0) + (((rd_T40 l1 x10_1).f1).length : Int)))) = false := decide_eq_false c6
       clear c6
       by_cases c9 : 0 ≤ ((rd_T40 l1 x10_1).f0)
       ·rw [if_pos c9] at H
        have c9b0 := eq_true c9
        have c9b1 : decide (0 ≤ ((rd_T40 l1 x10_1).f0)) = true := decide_eq_true c9
        clear c9
        by_cases c10 : ((rd_T40 l1 x10_1).f0) ≤ (wrap64 (((rd_T40 l1 x10_1).f0) + (((rd_T40 l1 x10_1).f1).length : Int)))
        ·rw [if_pos c10] at H
         have c10b0 := eq_true c10
         have c10b1 : decide (((rd_T40 l1 x10_1).f0) ≤ (wrap64 (((rd_T40 l1 x10_1).f0) + (((rd_T40 l1 x10_1).f1).length : Int)))) = true := decide_eq_true c10
         by_cases c11 : (wrap64 (((rd_T40 l1 x10_1).f0) + (((rd_T40 l1 x10_1).f1).length : Int))) ≤ (l0.length : Int)
         ·rw [if_pos c11] at H
          have c11b0 := eq_true c11
          have c11b1 : decide ((wrap64 (((rd_T40 l1 x10_1).f0) + (((rd_T40 l1 x10_1).f1).length : Int))) ≤ (l0.length : Int)) = true := decide_eq_true c11
          (try have c11m := Aside0.mk (Nat.min_eq_left (Int.toNat_le.2 c11)))
          replace H := Option.bind_eq_some_iff.mp H
          obtain ⟨t342, A120, H⟩ := H
          replace H : (if t342 = true then (hunk_fits.l0 k1 l0 l1 (l1.length : Int) (wrap64 (x10_1 + 1))) else (some false)) = some r := H
          have A12 := Aside0.mk A120
          clear A120
          by_cases c13 : t342 = true
          ·subst c13
           have H1 : (hunk_fits.l0 k1 l0 l1 (l1.length : Int) (wrap64 (x10_1 + 1))) = some r := by rw [if_pos rfl] at H; exact H
           clear H
           have H := H1
           clear H1
           have H' := Aside0.mk H
           clear H
           have p339 : 0 ≤ (x10_1 : Int) := of_decide_eq_true (by first | (with_reducible assumption) | assumption)
           have q339 : x10_1 < (l1.length : Int) := of_decide_eq_true (by first | (with_reducible assumption) | assumption)
           obtain ⟨ad339, A339_1, c339_1, A339_2, c339_2, e339, hx339_0, hx339_1, hx339_2, hl339_1, hi339_1, hl339_2, hi339_2⟩ := at_T40 HR1.out x10_1 p339 q339
           cases e339
           replace hx339_0 := (HB.out.cell (World.block_lt_of_cell? w _ hx339_0)).trans hx339_0
           replace hx339_1 := (HB.out.cell (World.block_lt_of_cell? w _ hx339_1)).trans hx339_1
           replace hx339_2 := (HB.out.cell (World.block_lt_of_cell? w _ hx339_2)).trans hx339_2
           have HR339_1 := Aside0.mk hi339_1
           have HC339_1 := Aside0.mk hl339_1
           clear hi339_1 hl339_1
           have HR339_2 := Aside0.mk hi339_2
           have HC339_2 := Aside0.mk hl339_2
           clear hi339_2 hl339_2
           replace p339 := eq_true p339
           replace q339 := eq_true q339
           go_wp2_with (first | ((with_reducible refine gate_dst (N := 6) rfl ?_); refine box_event ?hg (N := 6) ?hd (cs := #[.int .i64 0, .slice none 0 0, .slice none 0 0]) (t := 40) ?hr ?_; (case hd => rfl); (case hg => rfl); (case hr => first | (go_simp; done) | (go_simp; rfl)); intro gb340 hg w14 hbox hb; have n0_ := Aside0.mk (below_step (by repeat (first | (with_reducible first | exact HB.out | apply below_alloc | apply pw_below_drewN | apply below_drew1) | exact HB.out)) hb); have n1_ := Aside0.mk (hbox); have n2_ := Aside0.mk ((by rw [hg]; exact (below_size (by repeat (first | (with_reducible first | exact HB.out | apply below_alloc | apply pw_below_drewN | apply below_drew1) | exact HB.out))) : w.heap.size ≤ gb340)); have n3_ := Aside0.mk ((by rw [hg]; exact (below_size (by repeat (first | (with_reducible first | exact HB.out | apply below_alloc | apply pw_below_drewN | apply below_drew1) | exact HB.out))) : w.heap.size ≤ gb340)); clear HB; have HB := n0_; have BK340 := n1_; have GW340 := n2_; have GE340 := n3_; clear n0_ n1_ n2_ n3_; clear hb hbox hg; have hcz15_0 : w14.cell? ⟨gb340, 0, none⟩ = some (.int .i64 0) := (blk_cell BK340.out 0).trans rfl; have hcz15_1 : w14.cell? ⟨gb340, 1, none⟩ = some (.slice none 0 0) := (blk_cell BK340.out 1).trans rfl; have hcz15_2 : w14.cell? ⟨gb340, 2, none⟩ = some (.slice none 0 0) := (blk_cell BK340.out 2).trans rfl; have hfz15_0 := blk_frozen BK340.out 0; have hfz15_1 := blk_frozen BK340.out 1; have hfz15_2 := blk_frozen BK340.out 2; obtain ⟨i016, hi016, _, hsz16, _⟩ := info_parts info9; obtain ⟨A16, hcut16, hA16, hC16⟩ := print_mid_of (P := Try.prog) Value.string (⟨#[]⟩ : ByteArray) 22 9 .i64 .i64 Try.underlying22 hi016 hsz16 A0 c0 l0 ((rd_T40 l1 x10_1).f0) (wrap64 (((rd_T40 l1 x10_1).f0) + (((rd_T40 l1 x10_1).f1).length : Int))) (of_decide_eq_true (by first | (with_reducible assumption) | assumption)) (by first | omega | exact of_decide_eq_true (by first | (with_reducible assumption) | assumption)) (of_decide_eq_true (by first | (with_reducible assumption) | assumption)) HC0.out; have HR341 := Aside0.mk (Kd.C_of_reads (h1 := fun _ => rfl) (hA16 _ (Kd.reads_of_C HR0.out))); have HC341 := Aside0.mk hC16; clear hA16 hC16 hi016 hsz16) | (go_at_call 32; (try rw [show ((wrap64 (((rd_T40 l1 x10_1).f0) + (((rd_T40 l1 x10_1).f1).length : Int))) : Int).toNat - (((rd_T40 l1 x10_1).f0) : Int).toNat = ((l0.take ((wrap64 (((rd_T40 l1 x10_1).f0) + (((rd_T40 l1 x10_1).f1).length : Int))) : Int).toNat).drop (((rd_T40 l1 x10_1).f0) : Int).toNat).length from by (have h_ : ((wrap64 (((rd_T40 l1 x10_1).f0) + (((rd_T40 l1 x10_1).f1).length : Int))) : Int) ≤ (l0.length : Int) := of_decide_eq_true (by first | (with_reducible assumption) | assumption)); rw [List.length_drop, List.length_take, Nat.min_eq_left (Int.toNat_le.2 h_)]]); (with_reducible refine (slices_Equal_string_string.calls k1 _ _ ((l0.take ((wrap64 (((rd_T40 l1 x10_1).f0) + (((rd_T40 l1 x10_1).f1).length : Int))) : Int).toNat).drop (((rd_T40 l1 x10_1).f0) : Int).toNat) _ _ ((rd_T40 l1 x10_1).f1) true _ ?side1 ?side2 ?side3 ?side4 A12.out).mono ?_); (case side1 => exact Kd.C_below HR341.out (by repeat (first | (with_reducible first | exact HB.out | apply below_alloc | apply pw_below_drewN | apply below_drew1 | refine below_set ?_ GE340.out) | exact HB.out))); (case side2 => exact HC341.out); (case side3 => exact Kd.C_below HR339_1.out (by repeat (first | (with_reducible first | exact HB.out | apply below_alloc | apply pw_below_drewN | apply below_drew1 | refine below_set ?_ GE340.out) | exact HB.out))); (case side4 => exact HC339_1.out); rintro e w' ⟨rfl, ⟨nd, rfl⟩⟩; (try first | exact ⟨rfl, _, World.drewN_drewN _ _ _⟩ | exact ⟨rfl, _, Eq.trans (World.drewN_drewN _ _ _) (congrArg (World.drewN _) (Nat.add_assoc _ _ _))⟩)))
           repeat (go_quiet (first | ((with_reducible refine gate_dst (N := 6) rfl ?_); refine box_event ?hg (N := 6) ?hd (cs := #[.int .i64 0, .slice none 0 0, .slice none 0 0]) (t := 40) ?hr ?_; (case hd => rfl); (case hg => rfl); (case hr => first | (go_simp; done) | (go_simp; rfl)); intro gb340 hg w14 hbox hb; have n0_ := Aside0.mk (below_step (by repeat (first | (with_reducible first | exact HB.out | apply below_alloc | apply pw_below_drewN | apply below_drew1) | exact HB.out)) hb); have n1_ := Aside0.mk (hbox); have n2_ := Aside0.mk ((by rw [hg]; exact (below_size (by repeat (first | (with_reducible first | exact HB.out | apply below_alloc | apply pw_below_drewN | apply below_drew1) | exact HB.out))) : w.heap.size ≤ gb340)); have n3_ := Aside0.mk ((by rw [hg]; exact (below_size (by repeat (first | (with_reducible first | exact HB.out | apply below_alloc | apply pw_below_drewN | apply below_drew1) | exact HB.out))) : w.heap.size ≤ gb340)); clear HB; have HB := n0_; have BK340 := n1_; have GW340 := n2_; have GE340 := n3_; clear n0_ n1_ n2_ n3_; clear hb hbox hg; have hcz15_0 : w14.cell? ⟨gb340, 0, none⟩ = some (.int .i64 0) := (blk_cell BK340.out 0).trans rfl; have hcz15_1 : w14.cell? ⟨gb340, 1, none⟩ = some (.slice none 0 0) := (blk_cell BK340.out 1).trans rfl; have hcz15_2 : w14.cell? ⟨gb340, 2, none⟩ = some (.slice none 0 0) := (blk_cell BK340.out 2).trans rfl; have hfz15_0 := blk_frozen BK340.out 0; have hfz15_1 := blk_frozen BK340.out 1; have hfz15_2 := blk_frozen BK340.out 2; obtain ⟨i016, hi016, _, hsz16, _⟩ := info_parts info9; obtain ⟨A16, hcut16, hA16, hC16⟩ := print_mid_of (P := Try.prog) Value.string (⟨#[]⟩ : ByteArray) 22 9 .i64 .i64 Try.underlying22 hi016 hsz16 A0 c0 l0 ((rd_T40 l1 x10_1).f0) (wrap64 (((rd_T40 l1 x10_1).f0) + (((rd_T40 l1 x10_1).f1).length : Int))) (of_decide_eq_true (by first | (with_reducible assumption) | assumption)) (by first | omega | exact of_decide_eq_true (by first | (with_reducible assumption) | assumption)) (of_decide_eq_true (by first | (with_reducible assumption) | assumption)) HC0.out; have HR341 := Aside0.mk (Kd.C_of_reads (h1 := fun _ => rfl) (hA16 _ (Kd.reads_of_C HR0.out))); have HC341 := Aside0.mk hC16; clear hA16 hC16 hi016 hsz16) | (go_at_call 32; (try rw [show ((wrap64 (((rd_T40 l1 x10_1).f0) + (((rd_T40 l1 x10_1).f1).length : Int))) : Int).toNat - (((rd_T40 l1 x10_1).f0) : Int).toNat = ((l0.take ((wrap64 (((rd_T40 l1 x10_1).f0) + (((rd_T40 l1 x10_1).f1).length : Int))) : Int).toNat).drop (((rd_T40 l1 x10_1).f0) : Int).toNat).length from by (have h_ : ((wrap64 (((rd_T40 l1 x10_1).f0) + (((rd_T40 l1 x10_1).f1).length : Int))) : Int) ≤ (l0.length : Int) := of_decide_eq_true (by first | (with_reducible assumption) | assumption)); rw [List.length_drop, List.length_take, Nat.min_eq_left (Int.toNat_le.2 h_)]]); (with_reducible refine (slices_Equal_string_string.calls k1 _ _ ((l0.take ((wrap64 (((rd_T40 l1 x10_1).f0) + (((rd_T40 l1 x10_1).f1).length : Int))) : Int).toNat).drop (((rd_T40 l1 x10_1).f0) : Int).toNat) _ _ ((rd_T40 l1 x10_1).f1) true _ ?side1 ?side2 ?side3 ?side4 A12.out).mono ?_); (case side1 => exact Kd.C_below HR341.out (by repeat (first | (with_reducible first | exact HB.out | apply below_alloc | apply pw_below_drewN | apply below_drew1 | refine below_set ?_ GE340.out) | exact HB.out))); (case side2 => exact HC341.out); (case side3 => exact Kd.C_below HR339_1.out (by repeat (first | (with_reducible first | exact HB.out | apply below_alloc | apply pw_below_drewN | apply below_drew1 | refine below_set ?_ GE340.out) | exact HB.out))); (case side4 => exact HC339_1.out); rintro e w' ⟨rfl, ⟨nd, rfl⟩⟩; (try first | exact ⟨rfl, _, World.drewN_drewN _ _ _⟩ | exact ⟨rfl, _, Eq.trans (World.drewN_drewN _ _ _) (congrArg (World.drewN _) (Nat.add_assoc _ _ _))⟩))); try go_wp2_with (first | ((with_reducible refine gate_dst (N := 6) rfl ?_); refine box_event ?hg (N := 6) ?hd (cs := #[.int .i64 0, .slice none 0 0, .slice none 0 0]) (t := 40) ?hr ?_; (case hd => rfl); (case hg => rfl); (case hr => first | (go_simp; done) | (go_simp; rfl)); intro gb340 hg w14 hbox hb; have n0_ := Aside0.mk (below_step (by repeat (first | (with_reducible first | exact HB.out | apply below_alloc | apply pw_below_drewN | apply below_drew1) | exact HB.out)) hb); have n1_ := Aside0.mk (hbox); have n2_ := Aside0.mk ((by rw [hg]; exact (below_size (by repeat (first | (with_reducible first | exact HB.out | apply below_alloc | apply pw_below_drewN | apply below_drew1) | exact HB.out))) : w.heap.size ≤ gb340)); have n3_ := Aside0.mk ((by rw [hg]; exact (below_size (by repeat (first | (with_reducible first | exact HB.out | apply below_alloc | apply pw_below_drewN | apply below_drew1) | exact HB.out))) : w.heap.size ≤ gb340)); clear HB; have HB := n0_; have BK340 := n1_; have GW340 := n2_; have GE340 := n3_; clear n0_ n1_ n2_ n3_; clear hb hbox hg; have hcz15_0 : w14.cell? ⟨gb340, 0, none⟩ = some (.int .i64 0) := (blk_cell BK340.out 0).trans rfl; have hcz15_1 : w14.cell? ⟨gb340, 1, none⟩ = some (.slice none 0 0) := (blk_cell BK340.out 1).trans rfl; have hcz15_2 : w14.cell? ⟨gb340, 2, none⟩ = some (.slice none 0 0) := (blk_cell BK340.out 2).trans rfl; have hfz15_0 := blk_frozen BK340.out 0; have hfz15_1 := blk_frozen BK340.out 1; have hfz15_2 := blk_frozen BK340.out 2; obtain ⟨i016, hi016, _, hsz16, _⟩ := info_parts info9; obtain ⟨A16, hcut16, hA16, hC16⟩ := print_mid_of (P := Try.prog) Value.string (⟨#[]⟩ : ByteArray) 22 9 .i64 .i64 Try.underlying22 hi016 hsz16 A0 c0 l0 ((rd_T40 l1 x10_1).f0) (wrap64 (((rd_T40 l1 x10_1).f0) + (((rd_T40 l1 x10_1).f1).length : Int))) (of_decide_eq_true (by first | (with_reducible assumption) | assumption)) (by first | omega | exact of_decide_eq_true (by first | (with_reducible assumption) | assumption)) (of_decide_eq_true (by first | (with_reducible assumption) | assumption)) HC0.out; have HR341 := Aside0.mk (Kd.C_of_reads (h1 := fun _ => rfl) (hA16 _ (Kd.reads_of_C HR0.out))); have HC341 := Aside0.mk hC16; clear hA16 hC16 hi016 hsz16) | (go_at_call 32; (try rw [show ((wrap64 (((rd_T40 l1 x10_1).f0) + (((rd_T40 l1 x10_1).f1).length : Int))) : Int).toNat - (((rd_T40 l1 x10_1).f0) : Int).toNat = ((l0.take ((wrap64 (((rd_T40 l1 x10_1).f0) + (((rd_T40 l1 x10_1).f1).length : Int))) : Int).toNat).drop (((rd_T40 l1 x10_1).f0) : Int).toNat).length from by (have h_ : ((wrap64 (((rd_T40 l1 x10_1).f0) + (((rd_T40 l1 x10_1).f1).length : Int))) : Int) ≤ (l0.length : Int) := of_decide_eq_true (by first | (with_reducible assumption) | assumption)); rw [List.length_drop, List.length_take, Nat.min_eq_left (Int.toNat_le.2 h_)]]); (with_reducible refine (slices_Equal_string_string.calls k1 _ _ ((l0.take ((wrap64 (((rd_T40 l1 x10_1).f0) + (((rd_T40 l1 x10_1).f1).length : Int))) : Int).toNat).drop (((rd_T40 l1 x10_1).f0) : Int).toNat) _ _ ((rd_T40 l1 x10_1).f1) true _ ?side1 ?side2 ?side3 ?side4 A12.out).mono ?_); (case side1 => exact Kd.C_below HR341.out (by repeat (first | (with_reducible first | exact HB.out | apply below_alloc | apply pw_below_drewN | apply below_drew1 | refine below_set ?_ GE340.out) | exact HB.out))); (case side2 => exact HC341.out); (case side3 => exact Kd.C_below HR339_1.out (by repeat (first | (with_reducible first | exact HB.out | apply below_alloc | apply pw_below_drewN | apply below_drew1 | refine below_set ?_ GE340.out) | exact HB.out))); (case side4 => exact HC339_1.out); rintro e w' ⟨rfl, ⟨nd, rfl⟩⟩; (try first | exact ⟨rfl, _, World.drewN_drewN _ _ _⟩ | exact ⟨rfl, _, Eq.trans (World.drewN_drewN _ _ _) (congrArg (World.drewN _) (Nat.add_assoc _ _ _))⟩))))
           go_roundg k1
           case measure => have := HK1.out; omega
           case rel => exact ⟨(wrap64 (x10_1 + 1)), (by first | rfl | (simp; done) | (simp [*]; done)), H', ⟨by have := HK1.out; omega⟩, ⟨by repeat (first | (with_reducible first | exact HB.out | apply below_alloc | apply pw_below_drewN | apply below_drew1 | refine below_set ?_ GE340.out) | exact HB.out)⟩⟩
          ·replace c13 := Bool.eq_false_iff.mpr c13
           subst c13
           have H1 : (some false) = some r := by rw [if_neg (show ¬ (false = true) by decide)] at H; exact H
           clear H
           have H := H1
           clear H1
           obtain rfl := Option.some.inj H
           have p339 : 0 ≤ (x10_1 : Int) := of_decide_eq_true (by first | (with_reducible assumption) | assumption)
           have q339 : x10_1 < (l1.length : Int) := of_decide_eq_true (by first | (with_reducible assumption) | assumption)
           obtain ⟨ad339, A339_1, c339_1, A339_2, c339_2, e339, hx339_0, hx339_1, hx339_2, hl339_1, hi339_1, hl339_2, hi339_2⟩ := at_T40 HR1.out x10_1 p339 q339
           cases e339
           replace hx339_0 := (HB.out.cell (World.block_lt_of_cell? w _ hx339_0)).trans hx339_0
           replace hx339_1 := (HB.out.cell (World.block_lt_of_cell? w _ hx339_1)).trans hx339_1
           replace hx339_2 := (HB.out.cell (World.block_lt_of_cell? w _ hx339_2)).trans hx339_2
           have HR339_1 := Aside0.mk hi339_1
           have HC339_1 := Aside0.mk hl339_1
           clear hi339_1 hl339_1
           have HR339_2 := Aside0.mk hi339_2
           have HC339_2 := Aside0.mk hl339_2
           clear hi339_2 hl339_2
           replace p339 := eq_true p339
           replace q339 := eq_true q339
           go_wp2_with (first | ((with_reducible refine gate_dst (N := 6) rfl ?_); refine box_event ?hg (N := 6) ?hd (cs := #[.int .i64 0, .slice none 0 0, .slice none 0 0]) (t := 40) ?hr ?_; (case hd => rfl); (case hg => rfl); (case hr => first | (go_simp; done) | (go_simp; rfl)); intro gb340 hg w17 hbox hb; have n0_ := Aside0.mk (below_step (by repeat (first | (with_reducible first | exact HB.out | apply below_alloc | apply pw_below_drewN | apply below_drew1) | exact HB.out)) hb); have n1_ := Aside0.mk (hbox); have n2_ := Aside0.mk ((by rw [hg]; exact (below_size (by repeat (first | (with_reducible first | exact HB.out | apply below_alloc | apply pw_below_drewN | apply below_drew1) | exact HB.out))) : w.heap.size ≤ gb340)); have n3_ := Aside0.mk ((by rw [hg]; exact (below_size (by repeat (first | (with_reducible first | exact HB.out | apply below_alloc | apply pw_below_drewN | apply below_drew1) | exact HB.out))) : w.heap.size ≤ gb340)); clear HB; have HB := n0_; have BK340 := n1_; have GW340 := n2_; have GE340 := n3_; clear n0_ n1_ n2_ n3_; clear hb hbox hg; have hcz18_0 : w17.cell? ⟨gb340, 0, none⟩ = some (.int .i64 0) := (blk_cell BK340.out 0).trans rfl; have hcz18_1 : w17.cell? ⟨gb340, 1, none⟩ = some (.slice none 0 0) := (blk_cell BK340.out 1).trans rfl; have hcz18_2 : w17.cell? ⟨gb340, 2, none⟩ = some (.slice none 0 0) := (blk_cell BK340.out 2).trans rfl; have hfz18_0 := blk_frozen BK340.out 0; have hfz18_1 := blk_frozen BK340.out 1; have hfz18_2 := blk_frozen BK340.out 2; obtain ⟨i019, hi019, _, hsz19, _⟩ := info_parts info9; obtain ⟨A19, hcut19, hA19, hC19⟩ := print_mid_of (P := Try.prog) Value.string (⟨#[]⟩ : ByteArray) 22 9 .i64 .i64 Try.underlying22 hi019 hsz19 A0 c0 l0 ((rd_T40 l1 x10_1).f0) (wrap64 (((rd_T40 l1 x10_1).f0) + (((rd_T40 l1 x10_1).f1).length : Int))) (of_decide_eq_true (by first | (with_reducible assumption) | assumption)) (by first | omega | exact of_decide_eq_true (by first | (with_reducible assumption) | assumption)) (of_decide_eq_true (by first | (with_reducible assumption) | assumption)) HC0.out; have HR341 := Aside0.mk (Kd.C_of_reads (h1 := fun _ => rfl) (hA19 _ (Kd.reads_of_C HR0.out))); have HC341 := Aside0.mk hC19; clear hA19 hC19 hi019 hsz19) | (go_at_call 32; (try rw [show ((wrap64 (((rd_T40 l1 x10_1).f0) + (((rd_T40 l1 x10_1).f1).length : Int))) : Int).toNat - (((rd_T40 l1 x10_1).f0) : Int).toNat = ((l0.take ((wrap64 (((rd_T40 l1 x10_1).f0) + (((rd_T40 l1 x10_1).f1).length : Int))) : Int).toNat).drop (((rd_T40 l1 x10_1).f0) : Int).toNat).length from by (have h_ : ((wrap64 (((rd_T40 l1 x10_1).f0) + (((rd_T40 l1 x10_1).f1).length : Int))) : Int) ≤ (l0.length : Int) := of_decide_eq_true (by first | (with_reducible assumption) | assumption)); rw [List.length_drop, List.length_take, Nat.min_eq_left (Int.toNat_le.2 h_)]]); (with_reducible refine (slices_Equal_string_string.calls k1 _ _ ((l0.take ((wrap64 (((rd_T40 l1 x10_1).f0) + (((rd_T40 l1 x10_1).f1).length : Int))) : Int).toNat).drop (((rd_T40 l1 x10_1).f0) : Int).toNat) _ _ ((rd_T40 l1 x10_1).f1) false _ ?side1 ?side2 ?side3 ?side4 A12.out).mono ?_); (case side1 => exact Kd.C_below HR341.out (by repeat (first | (with_reducible first | exact HB.out | apply below_alloc | apply pw_below_drewN | apply below_drew1 | refine below_set ?_ GE340.out) | exact HB.out))); (case side2 => exact HC341.out); (case side3 => exact Kd.C_below HR339_1.out (by repeat (first | (with_reducible first | exact HB.out | apply below_alloc | apply pw_below_drewN | apply below_drew1 | refine below_set ?_ GE340.out) | exact HB.out))); (case side4 => exact HC339_1.out); rintro e w' ⟨rfl, ⟨nd, rfl⟩⟩; (try first | exact ⟨rfl, _, World.drewN_drewN _ _ _⟩ | exact ⟨rfl, _, Eq.trans (World.drewN_drewN _ _ _) (congrArg (World.drewN _) (Nat.add_assoc _ _ _))⟩)))
           repeat (go_quiet (first | ((with_reducible refine gate_dst (N := 6) rfl ?_); refine box_event ?hg (N := 6) ?hd (cs := #[.int .i64 0, .slice none 0 0, .slice none 0 0]) (t := 40) ?hr ?_; (case hd => rfl); (case hg => rfl); (case hr => first | (go_simp; done) | (go_simp; rfl)); intro gb340 hg w17 hbox hb; have n0_ := Aside0.mk (below_step (by repeat (first | (with_reducible first | exact HB.out | apply below_alloc | apply pw_below_drewN | apply below_drew1) | exact HB.out)) hb); have n1_ := Aside0.mk (hbox); have n2_ := Aside0.mk ((by rw [hg]; exact (below_size (by repeat (first | (with_reducible first | exact HB.out | apply below_alloc | apply pw_below_drewN | apply below_drew1) | exact HB.out))) : w.heap.size ≤ gb340)); have n3_ := Aside0.mk ((by rw [hg]; exact (below_size (by repeat (first | (with_reducible first | exact HB.out | apply below_alloc | apply pw_below_drewN | apply below_drew1) | exact HB.out))) : w.heap.size ≤ gb340)); clear HB; have HB := n0_; have BK340 := n1_; have GW340 := n2_; have GE340 := n3_; clear n0_ n1_ n2_ n3_; clear hb hbox hg; have hcz18_0 : w17.cell? ⟨gb340, 0, none⟩ = some (.int .i64 0) := (blk_cell BK340.out 0).trans rfl; have hcz18_1 : w17.cell? ⟨gb340, 1, none⟩ = some (.slice none 0 0) := (blk_cell BK340.out 1).trans rfl; have hcz18_2 : w17.cell? ⟨gb340, 2, none⟩ = some (.slice none 0 0) := (blk_cell BK340.out 2).trans rfl; have hfz18_0 := blk_frozen BK340.out 0; have hfz18_1 := blk_frozen BK340.out 1; have hfz18_2 := blk_frozen BK340.out 2; obtain ⟨i019, hi019, _, hsz19, _⟩ := info_parts info9; obtain ⟨A19, hcut19, hA19, hC19⟩ := print_mid_of (P := Try.prog) Value.string (⟨#[]⟩ : ByteArray) 22 9 .i64 .i64 Try.underlying22 hi019 hsz19 A0 c0 l0 ((rd_T40 l1 x10_1).f0) (wrap64 (((rd_T40 l1 x10_1).f0) + (((rd_T40 l1 x10_1).f1).length : Int))) (of_decide_eq_true (by first | (with_reducible assumption) | assumption)) (by first | omega | exact of_decide_eq_true (by first | (with_reducible assumption) | assumption)) (of_decide_eq_true (by first | (with_reducible assumption) | assumption)) HC0.out; have HR341 := Aside0.mk (Kd.C_of_reads (h1 := fun _ => rfl) (hA19 _ (Kd.reads_of_C HR0.out))); have HC341 := Aside0.mk hC19; clear hA19 hC19 hi019 hsz19) | (go_at_call 32; (try rw [show ((wrap64 (((rd_T40 l1 x10_1).f0) + (((rd_T40 l1 x10_1).f1).length : Int))) : Int).toNat - (((rd_T40 l1 x10_1).f0) : Int).toNat = ((l0.take ((wrap64 (((rd_T40 l1 x10_1).f0) + (((rd_T40 l1 x10_1).f1).length : Int))) : Int).toNat).drop (((rd_T40 l1 x10_1).f0) : Int).toNat).length from by (have h_ : ((wrap64 (((rd_T40 l1 x10_1).f0) + (((rd_T40 l1 x10_1).f1).length : Int))) : Int) ≤ (l0.length : Int) := of_decide_eq_true (by first | (with_reducible assumption) | assumption)); rw [List.length_drop, List.length_take, Nat.min_eq_left (Int.toNat_le.2 h_)]]); (with_reducible refine (slices_Equal_string_string.calls k1 _ _ ((l0.take ((wrap64 (((rd_T40 l1 x10_1).f0) + (((rd_T40 l1 x10_1).f1).length : Int))) : Int).toNat).drop (((rd_T40 l1 x10_1).f0) : Int).toNat) _ _ ((rd_T40 l1 x10_1).f1) false _ ?side1 ?side2 ?side3 ?side4 A12.out).mono ?_); (case side1 => exact Kd.C_below HR341.out (by repeat (first | (with_reducible first | exact HB.out | apply below_alloc | apply pw_below_drewN | apply below_drew1 | refine below_set ?_ GE340.out) | exact HB.out))); (case side2 => exact HC341.out); (case side3 => exact Kd.C_below HR339_1.out (by repeat (first | (with_reducible first | exact HB.out | apply below_alloc | apply pw_below_drewN | apply below_drew1 | refine below_set ?_ GE340.out) | exact HB.out))); (case side4 => exact HC339_1.out); rintro e w' ⟨rfl, ⟨nd, rfl⟩⟩; (try first | exact ⟨rfl, _, World.drewN_drewN _ _ _⟩ | exact ⟨rfl, _, Eq.trans (World.drewN_drewN _ _ _) (congrArg (World.drewN _) (Nat.add_assoc _ _ _))⟩))); try go_wp2_with (first | ((with_reducible refine gate_dst (N := 6) rfl ?_); refine box_event ?hg (N := 6) ?hd (cs := #[.int .i64 0, .slice none 0 0, .slice none 0 0]) (t := 40) ?hr ?_; (case hd => rfl); (case hg => rfl); (case hr => first | (go_simp; done) | (go_simp; rfl)); intro gb340 hg w17 hbox hb; have n0_ := Aside0.mk (below_step (by repeat (first | (with_reducible first | exact HB.out | apply below_alloc | apply pw_below_drewN | apply below_drew1) | exact HB.out)) hb); have n1_ := Aside0.mk (hbox); have n2_ := Aside0.mk ((by rw [hg]; exact (below_size (by repeat (first | (with_reducible first | exact HB.out | apply below_alloc | apply pw_below_drewN | apply below_drew1) | exact HB.out))) : w.heap.size ≤ gb340)); have n3_ := Aside0.mk ((by rw [hg]; exact (below_size (by repeat (first | (with_reducible first | exact HB.out | apply below_alloc | apply pw_below_drewN | apply below_drew1) | exact HB.out))) : w.heap.size ≤ gb340)); clear HB; have HB := n0_; have BK340 := n1_; have GW340 := n2_; have GE340 := n3_; clear n0_ n1_ n2_ n3_; clear hb hbox hg; have hcz18_0 : w17.cell? ⟨gb340, 0, none⟩ = some (.int .i64 0) := (blk_cell BK340.out 0).trans rfl; have hcz18_1 : w17.cell? ⟨gb340, 1, none⟩ = some (.slice none 0 0) := (blk_cell BK340.out 1).trans rfl; have hcz18_2 : w17.cell? ⟨gb340, 2, none⟩ = some (.slice none 0 0) := (blk_cell BK340.out 2).trans rfl; have hfz18_0 := blk_frozen BK340.out 0; have hfz18_1 := blk_frozen BK340.out 1; have hfz18_2 := blk_frozen BK340.out 2; obtain ⟨i019, hi019, _, hsz19, _⟩ := info_parts info9; obtain ⟨A19, hcut19, hA19, hC19⟩ := print_mid_of (P := Try.prog) Value.string (⟨#[]⟩ : ByteArray) 22 9 .i64 .i64 Try.underlying22 hi019 hsz19 A0 c0 l0 ((rd_T40 l1 x10_1).f0) (wrap64 (((rd_T40 l1 x10_1).f0) + (((rd_T40 l1 x10_1).f1).length : Int))) (of_decide_eq_true (by first | (with_reducible assumption) | assumption)) (by first | omega | exact of_decide_eq_true (by first | (with_reducible assumption) | assumption)) (of_decide_eq_true (by first | (with_reducible assumption) | assumption)) HC0.out; have HR341 := Aside0.mk (Kd.C_of_reads (h1 := fun _ => rfl) (hA19 _ (Kd.reads_of_C HR0.out))); have HC341 := Aside0.mk hC19; clear hA19 hC19 hi019 hsz19) | (go_at_call 32; (try rw [show ((wrap64 (((rd_T40 l1 x10_1).f0) + (((rd_T40 l1 x10_1).f1).length : Int))) : Int).toNat - (((rd_T40 l1 x10_1).f0) : Int).toNat = ((l0.take ((wrap64 (((rd_T40 l1 x10_1).f0) + (((rd_T40 l1 x10_1).f1).length : Int))) : Int).toNat).drop (((rd_T40 l1 x10_1).f0) : Int).toNat).length from by (have h_ : ((wrap64 (((rd_T40 l1 x10_1).f0) + (((rd_T40 l1 x10_1).f1).length : Int))) : Int) ≤ (l0.length : Int) := of_decide_eq_true (by first | (with_reducible assumption) | assumption)); rw [List.length_drop, List.length_take, Nat.min_eq_left (Int.toNat_le.2 h_)]]); (with_reducible refine (slices_Equal_string_string.calls k1 _ _ ((l0.take ((wrap64 (((rd_T40 l1 x10_1).f0) + (((rd_T40 l1 x10_1).f1).length : Int))) : Int).toNat).drop (((rd_T40 l1 x10_1).f0) : Int).toNat) _ _ ((rd_T40 l1 x10_1).f1) false _ ?side1 ?side2 ?side3 ?side4 A12.out).mono ?_); (case side1 => exact Kd.C_below HR341.out (by repeat (first | (with_reducible first | exact HB.out | apply below_alloc | apply pw_below_drewN | apply below_drew1 | refine below_set ?_ GE340.out) | exact HB.out))); (case side2 => exact HC341.out); (case side3 => exact Kd.C_below HR339_1.out (by repeat (first | (with_reducible first | exact HB.out | apply below_alloc | apply pw_below_drewN | apply below_drew1 | refine below_set ?_ GE340.out) | exact HB.out))); (case side4 => exact HC339_1.out); rintro e w' ⟨rfl, ⟨nd, rfl⟩⟩; (try first | exact ⟨rfl, _, World.drewN_drewN _ _ _⟩ | exact ⟨rfl, _, Eq.trans (World.drewN_drewN _ _ _) (congrArg (World.drewN _) (Nat.add_assoc _ _ _))⟩))))
           go_ret
           exact ⟨by first | rfl | (simp [errW_none, errW_some] <;> rfl) | (simp [*, errW_none, errW_some] <;> rfl), by repeat (first | (with_reducible first | exact HB.out | apply below_alloc | apply pw_below_drewN | apply below_drew1 | refine below_set ?_ GE340.out) | exact HB.out)⟩
         ·rw [if_neg c11] at H
          exact absurd H (by simp)
        ·rw [if_neg c10] at H
         exact absurd H (by simp)
       ·rw [if_neg c9] at H
        exact absurd H (by simp)
     ·rw [if_neg c5] at H
      exact absurd H (by simp)
    ·rw [if_neg c4] at H
     exact absurd H (by simp)
   ·rw [if_neg c3] at H
    have c3b0 : decide (x10_1 < (l1.length : Int)) = false := decide_eq_false c3
    clear c3
    obtain rfl := Option.some.inj H
    go_wp2
    repeat (go_quiet (fail); try go_wp2)
    go_ret
    exact ⟨by first | rfl | (simp [errW_none, errW_some] <;> rfl) | (simp [*, errW_none, errW_some] <;> rfl), by repeat (first | (with_reducible first | exact HB.out | apply below_alloc | apply pw_below_drewN | apply below_drew1) | exact HB.out)⟩
end Go.Proofs.Ytmgbbmjfjnhmiaa.Pr
end
