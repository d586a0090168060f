/- Part 16 of the proof of MergeApart: texts put together. -/
import Derived.Test.YtahpbpacjciddaaJMergeApart4
import Derived.Test.YtahpbpacjciddaaJMergeApart13
import Derived.Test.YtahpbpacjciddaaJMergeApart15
set_option linter.unusedVariables false
set_option linter.unusedSimpArgs false
section
namespace Go.Proofs.Ytahpbpacjciddaa.Pr
open Go.RowKit Go.Proofs.YtahpbpacjciddaaW.PrintWords Go.Proofs.YtahpbpacjciddaaW.PrintLast Go.Proofs.YtahpbpacjciddaaW.PrintMore
def rdiff.more (a b : List ByteArray) (i k : Nat) : Bool := decide (i < a.length ∨ k < b.length)
theorem rdiff.more_t {a b : List ByteArray} {i k : Nat} (h : i < a.length ∨ k < b.length) : rdiff.more a b i k = true := decide_eq_true h
theorem rdiff.more_f {a b : List ByteArray} {i k : Nat} (h : ¬ (i < a.length ∨ k < b.length)) : rdiff.more a b i k = false := decide_eq_false h
def rdiff.hit (m : List S77) (i k p : Nat) : Bool := match m[p]? with
  | some x => decide (x.f0 = (i : Int)) && decide (x.f1 = (k : Int))
  | none => false
def rdiff.old (a : List ByteArray) (m : List S77) (i p : Nat) : Bool := decide (i < a.length) && (match m[p]? with
  | some x => decide ((i : Int) < x.f0)
  | none => true)
def rdiff (a b : List ByteArray) (m : List S77) : Nat → Nat → Nat → Nat → List S82 → Option S82 → Option (List S82)
  | 0, _, _, _, _, _ => none
  | n + 1, i, k, p, out, cur =>
    if i < a.length ∨ k < b.length then
      if rdiff.hit m i k p = true then rdiff a b m n (i + 1) (k + 1) (p + 1) (out ++ cur.toList) none
      else if rdiff.old a m i p = true then rdiff a b m n (i + 1) k p out (some ⟨(cur.getD ⟨i, [], []⟩).f0, (cur.getD ⟨i, [], []⟩).f1 ++ [a.getD i ByteArray.empty], (cur.getD ⟨i, [], []⟩).f2⟩)
      else if k < b.length then rdiff a b m n i (k + 1) p out (some ⟨(cur.getD ⟨i, [], []⟩).f0, (cur.getD ⟨i, [], []⟩).f1, (cur.getD ⟨i, [], []⟩).f2 ++ [b.getD k ByteArray.empty]⟩)
      else none
    else some (out ++ cur.toList)
def rdiff.ok (N n i k p : Nat) (out : List S82) (cur : Option S82) : Prop := i + n ≤ N ∧ k + n ≤ N ∧ p + n ≤ N ∧ out.length + cur.toList.length + n ≤ N ∧ (cur.getD ⟨i, [], []⟩).f1.length + n ≤ N ∧ (cur.getD ⟨i, [], []⟩).f2.length + n ≤ N
theorem rdiff.ok_hit {N n i k p : Nat} {out : List S82} {cur : Option S82} (h : rdiff.ok N (n + 1) i k p out cur) : rdiff.ok N n (i + 1) (k + 1) (p + 1) (out ++ cur.toList) none := by
  obtain ⟨h1, h2, h3, h4, h5, h6⟩ := h
  refine ⟨by omega, by omega, by omega, ?_, ?_, ?_⟩
  · rw [List.length_append]
    simp only [Option.toList_none, List.length_nil]
    omega
  · show 0 + n ≤ N
    omega
  · show 0 + n ≤ N
    omega
theorem rdiff.ok_one {N n i i' k k' p : Nat} {out : List S82} {cur : Option S82} (h : rdiff.ok N (n + 1) i k p out cur) (y : S82) (hi : i' ≤ i + 1) (hk : k' ≤ k + 1) (h1 : y.f1.length ≤ (cur.getD ⟨i, [], []⟩).f1.length + 1) (h2 : y.f2.length ≤ (cur.getD ⟨i, [], []⟩).f2.length + 1) : rdiff.ok N n i' k' p out (some y) := by
  obtain ⟨a1, a2, a3, a4, a5, a6⟩ := h
  refine ⟨by omega, by omega, by omega, ?_, ?_, ?_⟩
  · simp only [Option.toList_some, List.length_cons, List.length_nil]
    omega
  · show y.f1.length + n ≤ N
    omega
  · show y.f2.length + n ≤ N
    omega
def ref15_Diff.g (l0 l1 : List ByteArray) (x : List S77 × Int) : Option (List S82 × Int) :=
  if x.2 = 0 then (if l0.length ≤ 1000000 ∧ l1.length ≤ 1000000 ∧ x.1.length ≤ 1000000 then (rdiff l0 l1 x.1 (l0.length + l1.length + 1) 0 0 0 [] none).map fun r => (r, 0) else none) else some ([], x.2)
def ref15_Diff.f (k : Nat) (l0 l1 : List ByteArray) : Option (List S82 × Int) := (sidingref14_Best.f k l0 l1).bind (ref15_Diff.g l0 l1)
theorem rdiff.hit_lt {m : List S77} {i k p : Nat} (h : rdiff.hit m i k p = true) : p + 1 ≤ m.length := by
  unfold rdiff.hit at h
  split at h
  · rename_i e
    exact (List.getElem?_eq_some_iff.1 e).1
  · cases h
theorem rdiff.old_lt {a : List ByteArray} {m : List S77} {i p : Nat} (h : rdiff.old a m i p = true) : i < a.length := by
  unfold rdiff.old at h
  rw [Bool.and_eq_true] at h
  exact of_decide_eq_true h.1
theorem rdiff.getD_some {α : Type} (l : List α) (i : Nat) (z : α) (h : i < l.length) : l[i]? = some (l.getD i z) := by
  rw [List.getD_eq_getElem?_getD, List.getElem?_eq_getElem h]
  rfl
theorem rdiff.last {α : Type} (l : List α) (x z : α) : (l ++ [x]).getD l.length z = x := by
  rw [List.getD_eq_getElem?_getD]
  simp
theorem rdiff.setlast {α : Type} (l : List α) (x y : α) : (l ++ [x]).set l.length y = l ++ [y] := by simp
theorem rdiff.lend1 {e : Nat} {W : World} {base g cap : Nat} {out : List S82} {h : S82} (hS : Kd.S kHa e W base (fun _ => True) (.slice (some ⟨g, 0, none⟩) (out.length + 1) cap) (out ++ [h])) :
    ∃ (v1 : Value) (okr : Nat → Prop), W.cell? ⟨g, out.length * 3 + 1, none⟩ = some v1 ∧ W.frozen? ⟨g, out.length * 3 + 1, none⟩ = false ∧ (∀ k, W.heap.size ≤ k → okr k) ∧ (∀ k, v1.ownBlock = some k → k ≠ g) ∧ Kd.string.R 9 W base okr v1 h.f1 ∧
      ∀ (w1 : World) (v' : Value) (ys : List ByteArray), W.grownBy w1 v1.ownBlock → Kd.string.R 9 w1 base okr v' ys → w1.cell? ⟨g, out.length * 3 + 1, none⟩ = some v1 ∧ w1.frozen? ⟨g, out.length * 3 + 1, none⟩ = false ∧
        Kd.S kHa e (w1.setCell ⟨g, out.length * 3 + 1, none⟩ v') base (fun _ => True) (.slice (some ⟨g, 0, none⟩) (out.length + 1) cap) (out ++ [⟨h.f0, ys, h.f2⟩]) ∧ w1.grownBy (w1.setCell ⟨g, out.length * 3 + 1, none⟩ v') (some g) := by
  have h1 := kHa_lend1 hS out.length (Nat.lt_succ_self _)
  simp only [rdiff.last, rdiff.setlast] at h1
  exact h1
theorem rdiff.lend2 {e : Nat} {W : World} {base g cap : Nat} {out : List S82} {h : S82} (hS : Kd.S kHa e W base (fun _ => True) (.slice (some ⟨g, 0, none⟩) (out.length + 1) cap) (out ++ [h])) :
    ∃ (v1 : Value) (okr : Nat → Prop), W.cell? ⟨g, out.length * 3 + 2, none⟩ = some v1 ∧ W.frozen? ⟨g, out.length * 3 + 2, none⟩ = false ∧ (∀ k, W.heap.size ≤ k → okr k) ∧ (∀ k, v1.ownBlock = some k → k ≠ g) ∧ Kd.string.R 9 W base okr v1 h.f2 ∧
      ∀ (w1 : World) (v' : Value) (ys : List ByteArray), W.grownBy w1 v1.ownBlock → Kd.string.R 9 w1 base okr v' ys → w1.cell? ⟨g, out.length * 3 + 2, none⟩ = some v1 ∧ w1.frozen? ⟨g, out.length * 3 + 2, none⟩ = false ∧
        Kd.S kHa e (w1.setCell ⟨g, out.length * 3 + 2, none⟩ v') base (fun _ => True) (.slice (some ⟨g, 0, none⟩) (out.length + 1) cap) (out ++ [⟨h.f0, h.f1, ys⟩]) ∧ w1.grownBy (w1.setCell ⟨g, out.length * 3 + 2, none⟩ v') (some g) := by
  have h1 := kHa_lend2 hS out.length (Nat.lt_succ_self _)
  simp only [rdiff.last, rdiff.setlast] at h1
  exact h1
abbrev ref15_Diff.Bz0 : Array Bool := #[false, false, false, false, false, false, false, false, false, false, false, false, false, false, false, false]
abbrev ref15_Diff.Bz1 : Array Bool := #[true, false, false, false, false, false, false, false, false, false, false, false, false, false, false, false]
abbrev ref15_Diff.Bz2 : Array Bool := #[true, true, false, false, false, false, false, false, false, false, false, false, false, false, false, false]
abbrev ref15_Diff.Bz3 : Array Bool := #[true, true, true, false, false, false, false, false, false, false, false, false, false, false, false, false]
abbrev ref15_Diff.Bz4 : Array Bool := #[true, true, true, true, false, false, false, false, false, false, false, false, false, false, false, false]
abbrev ref15_Diff.Bz5 : Array Bool := #[true, true, true, true, true, false, false, false, false, false, false, false, false, false, false, false]
abbrev ref15_Diff.Bz6 : Array Bool := #[true, true, true, true, true, true, false, false, false, false, false, false, false, false, false, false]
abbrev ref15_Diff.Bz7 : Array Bool := #[true, true, true, true, true, true, false, true, false, false, false, false, false, false, false, false]
abbrev ref15_Diff.Bz8 : Array Bool := #[true, true, true, true, true, true, false, true, true, false, false, false, false, false, false, false]
abbrev ref15_Diff.Bz9 : Array Bool := #[true, true, true, true, true, true, false, true, true, true, false, false, false, false, false, false]
abbrev ref15_Diff.Bz10 : Array Bool := #[true, true, true, true, true, true, true, true, true, true, false, false, false, false, false, false]
abbrev ref15_Diff.Bz11 : Array Bool := #[true, true, true, true, true, true, true, true, true, true, true, false, false, false, false, false]
abbrev ref15_Diff.Bz12 : Array Bool := #[true, true, true, true, true, true, true, true, true, true, true, true, false, false, false, false]
abbrev ref15_Diff.Bz13 : Array Bool := #[true, true, true, true, true, true, true, true, true, true, true, true, true, false, false, false]
abbrev ref15_Diff.Bz14 : Array Bool := #[true, true, true, true, true, true, true, true, true, true, true, true, true, true, false, false]
abbrev ref15_Diff.Bz15 : Array Bool := #[true, true, true, true, true, true, true, true, true, true, true, true, true, true, true, false]
abbrev ref15_Diff.Bz16 : Array Bool := #[true, true, true, true, true, true, true, true, true, true, true, true, true, true, true, true]
open ref15_Diff in
set_option maxHeartbeats 8000000 in
set_option maxRecDepth 100000 in
theorem ref15_Diff.calls (k : Nat) (A0 : Option Addr) (c0 : Nat) (l0 : List ByteArray) (A1 : Option Addr) (c1 : Nat) (l1 : List ByteArray) (r1 : List S82) (r2 : Int) (w : World) (hr0 : Kd.C Kd.string w A0 l0.length l0) (hc0 : l0.length ≤ c0) (hr1 : Kd.C Kd.string w A1 l1.length l1) (hc1 : l1.length ≤ c1) (h : ref15_Diff.f k l0 l1 = some (r1, r2)) :
  Calls Try.prog 29 #[.slice A0 l0.length c0, .slice A1 l1.length c1] w fun e w' => ∃ v0_ : Value, e = .returned (.tuple #[v0_, .int .i64 r2]) ∧ Kd.S k82 82 w' w.heap.size (fun _ => True) v0_ r1 ∧ Below w.heap.size w w' := by
 unfold ref15_Diff.f at h
 obtain ⟨⟨m, e⟩, hb, h⟩ := Option.bind_eq_some_iff.1 h
 unfold ref15_Diff.g at h
 dsimp only at h
 have HB := Aside0.mk hb
 clear hb
 by_cases he : e = 0
 ·subst he
  rw [if_pos rfl] at h
  split at h
  ·rename_i hsm
   obtain ⟨hs0, hs1, hsm⟩ := hsm
   obtain ⟨r, hr, e_⟩ := Option.map_eq_some_iff.1 h
   obtain ⟨rfl, rfl⟩ := Prod.mk.inj e_
   clear e_ h
   obtain ⟨NN, hNN⟩ : ∃ NN, NN = l0.length + l1.length + 1 := ⟨_, rfl⟩
   rw [← hNN] at hr
   have hN9 : NN ≤ 2000001 := by omega
   clear hNN
   have HR := Aside0.mk hr
   have HR0 := Aside0.mk hr0
   have HR1 := Aside0.mk hr1
   have HC0 := Aside0.mk hc0
   have HC1 := Aside0.mk hc1
   clear hr hr0 hr1 hc0 hc1
   go_enter Try.func29, Try.ntmps29
   go_wp2_with (go_at_call 44; (with_reducible refine (sidingref14_Best.calls k A0 c0 l0 A1 c1 l1 m 0 _ HR0.out HC0.out HR1.out HC1.out HB.out).mono ?_); rintro e_ w1 ⟨v6, rfl, hv6, hb1⟩; obtain ⟨Am, cm, rfl⟩ := Kd.R_slice hv6; have HM := Aside0.mk (Kd.R_reads' hv6).2.2; have HB1 := Aside0.mk hb1; clear hv6 hb1)
   go_loopg [8, 9, 10, 11, 12] NN (fun nq v8 v9 v10 v11 v12 wr => ∃ (n i k p : Nat) (out : List S82) (cur : Option S82), n = nq ∧ v9 = .int .i64 (i : Int) ∧ v10 = .int .i64 (k : Int) ∧ v11 = .int .i64 (p : Int) ∧ v12 = .bool cur.isNone ∧ Aside0 (rdiff l0 l1 m n i k p out cur = some r) ∧ p ≤ m.length ∧ Aside0 (rdiff.ok NN n i k p out cur) ∧ Aside0 (Kd.S kHa 82 wr w1.heap.size (fun _ => True) v8 (out ++ cur.toList)) ∧ Aside0 (Below w1.heap.size w1 wr))
   case atStart => exact ⟨_, 0, 0, 0, [], none, rfl, rfl, rfl, rfl, rfl, HR, Nat.zero_le _, ⟨⟨by omega, by omega, by omega, by simp, by simp, by simp⟩⟩, ⟨Kd.S_nil _ _ _ _ _⟩, ⟨Below.refl _ _⟩⟩
   case round =>
    clear HR
    obtain ⟨n, i, k, p, out, cur, rfl, rfl, rfl, rfl, rfl, HG, hpm, HOK, HS, HBL⟩ := hrel
    obtain ⟨n', rfl⟩ : ∃ n', n = n' + 1 := by
     cases n with
     | zero => exact absurd HG.out (by simp [rdiff])
     | succ n => exact ⟨n, rfl⟩
    obtain ⟨xs, hxs⟩ : ∃ xs, xs = out ++ cur.toList := ⟨_, rfl⟩
    rw [← hxs] at HS
    have HXS := Aside0.mk hxs
    clear hxs
    obtain ⟨A8, c8, rfl⟩ := Kd.S_slice HS.out
    obtain ⟨o1, o2, o3, o4, o5, o6⟩ := HOK.out
    have O4 := Aside0.mk o4
    have O5 := Aside0.mk o5
    have O6 := Aside0.mk o6
    clear o4 o5 o6
    go_upto_region 7 with fail
    go_cut [32] (fun s32 wc => s32 = .bool (rdiff.more l0 l1 i k) ∧ wc = wr)
    case first =>
     by_cases c1 : (i : Int) < (l0.length : Int)
     ·have c1b : decide ((i : Int) < (l0.length : Int)) = true := decide_eq_true c1
      go_wp2
      go_meet
      exact ⟨congrArg Value.bool (rdiff.more_t (by omega)).symm, rfl⟩
     ·have c1b : decide ((i : Int) < (l0.length : Int)) = false := decide_eq_false c1
      by_cases c2 : (k : Int) < (l1.length : Int)
      ·have c2b : decide ((k : Int) < (l1.length : Int)) = true := decide_eq_true c2
       go_wp2
       go_meet
       exact ⟨congrArg Value.bool (rdiff.more_t (by omega)).symm, rfl⟩
      ·have c2b : decide ((k : Int) < (l1.length : Int)) = false := decide_eq_false c2
       go_wp2
       go_meet
       exact ⟨congrArg Value.bool (rdiff.more_f (by omega)).symm, rfl⟩
    case rest =>
     obtain ⟨rfl, hwc⟩ := hcut
     subst wc
     by_cases hh : i < l0.length ∨ k < l1.length
     ·rw [rdiff.more_t hh]
      have HH := Aside0.mk hh
      clear hh
      go_upto_region 8 with fail
      go_cut [54] (fun s54 wc => s54 = .bool (rdiff.hit m i k p) ∧ wc = wr)
      case first =>
       by_cases hp : p < m.length
       ·have hpb : decide ((p : Int) < (m.length : Int)) = true := decide_eq_true (by omega)
        obtain ⟨ad, rfl, hx, hy⟩ := at_T77 (Kd.C_below HM.out HBL.out) (p : Int) (by omega) (by omega)
        have hmx : m[p]? = some (rd_T77 m (p : Int)) := by
         unfold rd_T77
         rw [Int.toNat_natCast]
         exact rdiff.getD_some m p _ hp
        obtain ⟨x, hxe⟩ : ∃ x, x = rd_T77 m (p : Int) := ⟨_, rfl⟩
        rw [← hxe] at hx hy hmx
        simp only [Int.toNat_natCast] at hx hy
        clear hxe
        have e1 : rdiff.hit m i k p = (decide (x.f0 = (i : Int)) && decide (x.f1 = (k : Int))) := by
         unfold rdiff.hit
         rw [hmx]
        have E1 := Aside0.mk e1
        clear e1 hmx
        by_cases q1 : x.f0 = (i : Int)
        ·have q1b : (x.f0 == (i : Int)) = true := by simpa using q1
         by_cases q2 : x.f1 = (k : Int)
         ·have q2b : (x.f1 == (k : Int)) = true := by simpa using q2
          have Q1 := Aside0.mk q1
          have Q2 := Aside0.mk q2
          clear q1 q2
          go_wp2
          go_meet
          exact ⟨congrArg Value.bool (by rw [E1.out, decide_eq_true Q1.out, decide_eq_true Q2.out]; rfl), rfl⟩
         ·have q2b : (x.f1 == (k : Int)) = false := by simpa using q2
          have Q2 := Aside0.mk q2
          clear q1 q2
          go_wp2
          go_meet
          exact ⟨congrArg Value.bool (by rw [E1.out, decide_eq_false Q2.out, Bool.and_false]), rfl⟩
        ·have q1b : (x.f0 == (i : Int)) = false := by simpa using q1
         have Q1 := Aside0.mk q1
         clear q1
         go_wp2
         go_meet
         exact ⟨congrArg Value.bool (by rw [E1.out, decide_eq_false Q1.out, Bool.false_and]), rfl⟩
       ·have hpb : decide ((p : Int) < (m.length : Int)) = false := decide_eq_false (by omega)
        have hpn : decide (p < m.length) = false := decide_eq_false hp
        have e1 : rdiff.hit m i k p = false := by
         unfold rdiff.hit
         rw [List.getElem?_eq_none (by omega)]
        have E1 := Aside0.mk e1
        clear e1
        go_wp2
        go_meet
        exact ⟨congrArg Value.bool E1.out.symm, rfl⟩
      case rest =>
       obtain ⟨rfl, hwc⟩ := hcut
       subst wc
       have hg := HG.out
       unfold rdiff at hg
       rw [if_pos HH.out] at hg
       cases hq : rdiff.hit m i k p with
       | true =>
        rw [hq, if_pos rfl] at hg
        have HG' := Aside0.mk hg
        have hp1 := rdiff.hit_lt hq
        clear hg hq
        go_wp2
        go_roundg n'
        case measure => omega
        case rel => exact ⟨n', i + 1, k + 1, p + 1, out ++ cur.toList, none, rfl, by go_num, by go_num, by go_num, rfl, HG', hp1, ⟨rdiff.ok_hit HOK.out⟩, ⟨by rw [Option.toList_none, List.append_nil, ← HXS.out]; exact HS.out⟩, HBL⟩
       | false =>
        rw [hq, if_neg Bool.false_ne_true] at hg
        have HG' := Aside0.mk hg
        clear hg hq
        obtain ⟨hc, hhc⟩ : ∃ hc, hc = cur.getD ⟨i, [], []⟩ := ⟨_, rfl⟩
        rw [← hhc] at O5 O6 HG'
        have HHC := Aside0.mk hhc
        clear hhc
        go_upto_if 61 with fail
        go_cut [8, 12] (fun s8 s12 wc => s12 = .bool false ∧ Aside0 (Kd.S kHa 82 wc w1.heap.size (fun _ => True) s8 (out ++ [hc])) ∧ Aside0 (Below w1.heap.size w1 wc))
        case first =>
         cases cur with
         | some y =>
          obtain rfl : hc = y := HHC.out
          go_wp2
          go_meet
          exact ⟨rfl, ⟨by rw [show out ++ [hc] = xs from HXS.out.symm]; exact HS.out⟩, HBL⟩
         | none =>
          obtain rfl : hc = ⟨i, [], []⟩ := HHC.out
          obtain rfl : xs = out := by rw [HXS.out, Option.toList_none, List.append_nil]
          go_wp2_with (at_builtin; refine Kd.S_append kHa (w0 := w1) w1.heap.size rfl (.tmp 62) (.tmp 65) 58 82 (.agg #[.int .i64 0, .slice none 0 0, .slice none 0 0]) 56 rfl Try.underlying58 infoHa rfl (by decide) (by omega) (.slice A8 xs.length c8) xs ⟨i, [], []⟩ [.int .i64 (i : Int), .slice none 0 0, .slice none 0 0] (fun _ => True) (fun _ => False) rfl rfl (kHa_mkM ⟨i, [], []⟩ (fun _ => True) (Kd.R_nil _ _ _ _ _) (Kd.R_nil _ _ _ _ _)) (fun _ h => h.elim) (fun _ _ => trivial) (Kd.S_mono HS.out (fun k hk => ⟨hk, fun h => h⟩)) HBL.out (Below.size HBL.out) (by have := O4.out; omega) ?_; intro v8' w5 hs5 hb5 hg5 hat5; have HS5 := Aside0.mk hs5; have HB5 := Aside0.mk hb5; clear hs5 hb5 hg5 hat5)
          go_meet
          exact ⟨rfl, HS5, HB5⟩
        case rest =>
         obtain ⟨rfl, HS', HBL'⟩ := hcut
         clear HS HBL
         obtain ⟨W, rfl⟩ : ∃ W, W = wc := ⟨_, rfl⟩
         obtain ⟨g, cap, e8, hbg, hlg, _⟩ := Kd.S_form HS'.out (by simp)
         subst e8
         have el : (out ++ [hc]).length = out.length + 1 := by simp
         rw [el] at HS'
         simp only [el]
         clear el
         have O4l : out.length ≤ NN := by have := O4.out; omega
         go_upto_region 14 with fail
         go_cut [88] (fun s88 wy => s88 = .bool (rdiff.old l0 m i p) ∧ wy = W)
         case first =>
          by_cases hi : (i : Int) < (l0.length : Int)
          ·have hib : decide ((i : Int) < (l0.length : Int)) = true := decide_eq_true hi
           have hi2 : decide (i < l0.length) = true := decide_eq_true (by omega)
           have HI2 := Aside0.mk hi2
           clear hi2
           by_cases hp : p < m.length
           ·have hpb : decide ((p : Int) < (m.length : Int)) = true := decide_eq_true (by omega)
            obtain ⟨ad, rfl, hx, hy⟩ := at_T77 (Kd.C_below HM.out HBL'.out) (p : Int) (by omega) (by omega)
            have hmx : m[p]? = some (rd_T77 m (p : Int)) := by
             unfold rd_T77
             rw [Int.toNat_natCast]
             exact rdiff.getD_some m p _ hp
            obtain ⟨x, hxe⟩ : ∃ x, x = rd_T77 m (p : Int) := ⟨_, rfl⟩
            rw [← hxe] at hx hy hmx
            simp only [Int.toNat_natCast] at hx hy
            clear hxe
            have e1 : rdiff.old l0 m i p = decide ((i : Int) < x.f0) := by
             unfold rdiff.old
             rw [hmx, HI2.out, Bool.true_and]
            have E1 := Aside0.mk e1
            have q0 : ((p : Int) == (m.length : Int)) = false := by
             have : ¬ (p : Int) = (m.length : Int) := by omega
             simpa using this
            have q0n : (p == m.length) = false := by
             have : ¬ p = m.length := by omega
             simpa using this
            have hpn : ¬ p = m.length := by omega
            clear e1 hmx hy
            by_cases q1 : (i : Int) < x.f0
            ·have q1b : decide ((i : Int) < x.f0) = true := decide_eq_true q1
             have Q1 := Aside0.mk q1b
             go_wp2
             go_meet
             exact ⟨congrArg Value.bool (by rw [E1.out, Q1.out]), rfl⟩
            ·have q1b : decide ((i : Int) < x.f0) = false := decide_eq_false q1
             have Q1 := Aside0.mk q1b
             go_wp2
             go_meet
             exact ⟨congrArg Value.bool (by rw [E1.out, Q1.out]), rfl⟩
           ·have hpe : p = m.length := by omega
            have e1 : rdiff.old l0 m i p = true := by
             unfold rdiff.old
             rw [List.getElem?_eq_none (by omega), HI2.out]
             rfl
            have E1 := Aside0.mk e1
            have q0 : ((p : Int) == (m.length : Int)) = true := by rw [hpe]; simp
            have q0n : (p == m.length) = true := by simpa using hpe
            clear e1 hp
            go_wp2
            go_meet
            exact ⟨congrArg Value.bool E1.out.symm, rfl⟩
          ·have hib : decide ((i : Int) < (l0.length : Int)) = false := decide_eq_false hi
           have e1 : rdiff.old l0 m i p = false := by
            unfold rdiff.old
            rw [decide_eq_false (by omega), Bool.false_and]
           have E1 := Aside0.mk e1
           clear e1
           go_wp2
           go_meet
           exact ⟨congrArg Value.bool E1.out.symm, rfl⟩
         case rest =>
          obtain ⟨rfl, hwc⟩ := hcut
          subst wc
          cases ho : rdiff.old l0 m i p with
          | true =>
           have hg := HG'.out
           rw [ho, if_pos rfl] at hg
           have hlt := rdiff.old_lt ho
           clear ho HG'
           go_upto_region 15 with fail
           have HLT := Aside0.mk hlt
           obtain ⟨v1, okr, hc8, hf8, hokr, hne9, hr9, hput⟩ := rdiff.lend1 (Kd.S_drew HS'.out)
           obtain ⟨A9, c9, rfl⟩ := Kd.R_slice hr9
           obtain ⟨b0, o0, rfl, hb0, hs0c⟩ := C_strings (Kd.C_below (Kd.C_below HR0.out HB1.out) HBL'.out) (by omega)
           have hx0 := hs0c i (l0.getD i ByteArray.empty) (rdiff.getD_some _ _ _ hlt)
           obtain ⟨x0, hx0e⟩ : ∃ x0, x0 = l0.getD i ByteArray.empty := ⟨_, rfl⟩
           rw [← hx0e] at hx0 hg
           have HG2 := Aside0.mk hg
           have C8 := Aside0.mk hc8
           have C9 := Aside0.mk (show W.drew.cell? ⟨b0, o0 + i, none⟩ = some (.string x0) from hx0)
           have L8 := Aside0.mk (show g < W.drew.heap.size from hlg)
           have L9 := Aside0.mk (show b0 < W.drew.heap.size from hb0)
           have HOKR := Aside0.mk hokr
           have HR9 := Aside0.mk hr9
           have HPUT := Aside0.mk hput
           have HBD := Aside0.mk (Below.trans HBL'.out (below_drew (Below.refl _ _)))
           have HSZ := Aside0.mk (show w1.heap.size ≤ W.drew.heap.size from (by have h_ := Below.size HBL'.out; exact h_))
           have HLN := Aside0.mk (show (hc.f1.length + 1) * 16 ≤ 140737488355328 by have := O5.out; omega)
           have HBG := Aside0.mk hbg
           have j0 : (0 : Int) ≤ (out.length : Int) := by omega
           have j1 : (out.length : Int) < (out.length : Int) + 1 := by omega
           have j2 : (0 : Int) ≤ (i : Int) := by omega
           have j3 : (i : Int) < (l0.length : Int) := by omega
           clear hc8 hf8 hokr hne9 hr9 hput hs0c hx0 hx0e hb0 hg hlg hbg hlt
           refine start_ (n := 16) (S := fun w' => w'.cell? ⟨g, out.length * 3 + 1, none⟩ = some (.slice A9 hc.f1.length c9) ∧ w'.cell? ⟨b0, o0 + i, none⟩ = some (.string x0)) (ds := [12, 15]) Bz0 (by kernel_rfl) rfl rfl ⟨C8.out, C9.out⟩ (fun hHeld => ?_)
           refine pure_ (i := 0) (N := some 89) (v := ?_) (a' := ?_) Bz1 rfl rfl (by kernel_rfl) (fun _ _ _ h => h) (Or.inl ⟨by rfl, ?_⟩) ?_ ?_; rotate_left; (focus intro w'; go_simp; with_reducible rfl); rotate_left; (focus go_simp; rfl)
           refine pure_ (i := 1) (N := some 90) (v := ?_) (a' := ?_) Bz2 rfl rfl (by kernel_rfl) (fun _ _ _ h => h) (Or.inl ⟨by rfl, ?_⟩) ?_ ?_; rotate_left; (focus intro w'; go_simp; with_reducible rfl); rotate_left; (focus go_simp; rfl)
           refine pure_ (i := 2) (N := some 91) (v := ?_) (a' := ?_) Bz3 rfl rfl (by kernel_rfl) (fun _ _ _ h => h) (Or.inl ⟨by rfl, ?_⟩) ?_ ?_; rotate_left; (focus intro w'; go_simp; with_reducible rfl); rotate_left; (focus go_simp; rfl)
           refine pure_ (i := 3) (N := some 92) (v := ?_) (a' := ?_) Bz4 rfl rfl (by kernel_rfl) (fun _ _ _ h => h) (Or.inl ⟨by rfl, ?_⟩) ?_ ?_; rotate_left; (focus intro w'; go_simp; with_reducible rfl); rotate_left; (focus go_simp; rfl)
           refine pure_ (i := 4) (N := some 93) (v := ?_) (a' := ?_) Bz5 rfl rfl (by kernel_rfl) (fun _ _ _ h => h) (Or.inl ⟨by rfl, ?_⟩) ?_ ?_; rotate_left; (focus intro w'; go_simp; with_reducible rfl); rotate_left; (focus go_simp; rfl)
           refine pure_ (i := 5) (N := some 94) (v := ?_) (a' := ?_) Bz6 rfl rfl (by kernel_rfl) (fun _ _ _ h => h) (Or.inl ⟨by rfl, ?_⟩) ?_ ?_; rotate_left; (focus intro w'; go_simp; with_reducible rfl); rotate_left; (focus go_simp; rfl)
           refine pure_ (i := 7) (N := some 96) (v := ?_) (a' := ?_) Bz7 rfl rfl (by kernel_rfl) (fun _ _ _ h => h) (Or.inl ⟨by rfl, ?_⟩) ?_ ?_; rotate_left; (focus intro w'; go_simp; with_reducible rfl); rotate_left; (focus go_simp; rfl)
           refine pure_ (i := 8) (N := some 97) (v := ?_) (a' := ?_) Bz8 rfl rfl (by kernel_rfl) (fun _ _ _ h => h) (Or.inl ⟨by rfl, ?_⟩) ?_ ?_; rotate_left; (focus intro w'; go_simp; with_reducible rfl); rotate_left; (focus go_simp; rfl)
           refine pure_ (i := 9) (N := some 98) (v := ?_) (a' := ?_) Bz9 rfl rfl (by kernel_rfl) (fun _ _ _ h => h) (Or.inl ⟨by rfl, ?_⟩) ?_ ?_; rotate_left; (focus intro w'; go_simp; with_reducible rfl); rotate_left; (focus go_simp; rfl)
           refine take_ (i := 6) (N := some 95) (v := ?_) (a' := ?_) Bz10 rfl rfl (by kernel_rfl) (fun _ _ _ h => h) (Or.inl ⟨by rfl, ?_⟩) hHeld ?_ ?_; rotate_left; (focus rintro w' ⟨s0, s1⟩; go_simp; with_reducible rfl); rotate_left; (focus go_simp; rfl)
           refine take_ (i := 10) (N := some 99) (v := ?_) (a' := ?_) Bz11 rfl rfl (by kernel_rfl) (fun _ _ _ h => h) (Or.inl ⟨by rfl, ?_⟩) hHeld ?_ ?_; rotate_left; (focus rintro w' ⟨s0, s1⟩; go_simp; with_reducible rfl); rotate_left; (focus go_simp; rfl)
           refine one_ (i := 11) (N := some 100) Bz12 rfl rfl (by kernel_rfl) (by decide) (fun K hK => ?_)
           refine value_ (w1 := ?_) (v := ?_) (by rfl) rfl ?_ ?_
           rotate_left 2
           ·go_simp
            constructor
            ·rfl
            ·rfl
           refine hK.out _ _ ⟨(cell_keep ((Below.refl _ _).alloc (Nat.le_refl _) _) (by exact L8.out) hHeld.1), (cell_keep ((Below.refl _ _).alloc (Nat.le_refl _) _) (by exact L9.out) hHeld.2)⟩ (fun hHeld => ?_)
           clear hK K
           refine norm_ (a' := ?_) ?_ ?_
           rotate_left
           ·show Act.put _ (some 100) _ = _
            simp only [Act.put, List.setIfInBounds_toArray, List.set_cons_zero, List.set_cons_succ, i64_w, i32_w]
            rfl
           refine last_ (i := 12) (N := some 101) Bz13 rfl rfl (by kernel_rfl) (by decide) (fun K hK => ?_)
           refine Kd.R_append_step Kd.string (w0 := w1) w1.heap.size (by rfl) (.tmp 95) (.tmp 100) 22 9 (.string ⟨#[]⟩) 16 (by rfl) Try.underlying22 info9 rfl (by decide) (by omega) (.slice A9 hc.f1.length c9) hc.f1 x0 [.string x0] okr (fun _ => False) (by rfl) (by rfl) rfl (fun _ h_ => h_.elim) HOKR.out HR9.out HBD.out HSZ.out HLN.out ?_
           intro v9 w5 hr9 hb9 hg9 hat9
           have HR9' := Aside0.mk hr9
           have HB9 := Aside0.mk hb9
           have hp9 := HPUT.out w5 v9 _ hg9 hr9
           have HP9 := Aside0.mk hp9.2.2.1
           have hc9 := hp9.1
           have hf9 := hp9.2.1
           obtain ⟨Av9, cv9, rfl⟩ := Kd.R_slice hr9
           clear hr9 hb9 hg9 hat9 hp9
           refine hK.out _ _ ?_
           clear hK K
           refine norm_ (a' := ?_) ?_ ?_
           rotate_left
           ·show Act.put _ (some 101) _ = _
            simp only [Act.put, List.setIfInBounds_toArray, List.set_cons_zero, List.set_cons_succ, i64_w, i32_w]
            rfl
           refine pure_ (i := 13) (N := some 102) (v := ?_) (a' := ?_) Bz14 rfl rfl (by kernel_rfl) (fun _ _ _ h => h) (Or.inl ⟨by rfl, ?_⟩) ?_ ?_; rotate_left; (focus intro w'; go_simp; with_reducible rfl); rotate_left; (focus go_simp; rfl)
           refine pure_ (i := 14) (N := some 103) (v := ?_) (a' := ?_) Bz15 rfl rfl (by kernel_rfl) (fun _ _ _ h => h) (Or.inl ⟨by rfl, ?_⟩) ?_ ?_; rotate_left; (focus intro w'; go_simp; with_reducible rfl); rotate_left; (focus go_simp; rfl)
           refine last_ (i := 15) (N := none) Bz16 rfl rfl (by kernel_rfl) (by decide) (fun K hK => ?_)
           refine skip_ (w1 := ?_) (by rfl) rfl ?_ ?_
           rotate_left
           ·go_simp
            rfl
           refine hK.out _ _ ?_
           clear hK K
           refine done_ (by kernel_rfl) ?_
           go_wp2
           go_roundg n'
           case measure => omega
           case rel => exact ⟨n', i + 1, k, p, out, some ⟨hc.f0, hc.f1 ++ [x0], hc.f2⟩, rfl, by go_num, rfl, rfl, rfl, HG2, hpm, ⟨rdiff.ok_one HOK.out _ (by omega) (by omega) (by rw [← HHC.out]; simp) (by rw [← HHC.out]; simp)⟩, ⟨by have h_ := HP9.out; rw [List.length_append] at h_; exact h_⟩, ⟨HB9.out.setCell (p := ⟨g, out.length * 3 + 1, none⟩) (by exact HBG.out) _⟩⟩
          | false =>
           have hg := HG'.out
           rw [ho, if_neg Bool.false_ne_true] at hg
           clear ho HG'
           split at hg
           ·rename_i hlt
            go_upto_region 17 with fail
            have HLT := Aside0.mk hlt
            obtain ⟨v1, okr, hc8, hf8, hokr, hne9, hr9, hput⟩ := rdiff.lend2 (Kd.S_drew HS'.out)
            obtain ⟨A9, c9, rfl⟩ := Kd.R_slice hr9
            obtain ⟨b0, o0, rfl, hb0, hs0c⟩ := C_strings (Kd.C_below (Kd.C_below HR1.out HB1.out) HBL'.out) (by omega)
            have hx0 := hs0c k (l1.getD k ByteArray.empty) (rdiff.getD_some _ _ _ hlt)
            obtain ⟨x0, hx0e⟩ : ∃ x0, x0 = l1.getD k ByteArray.empty := ⟨_, rfl⟩
            rw [← hx0e] at hx0 hg
            have HG2 := Aside0.mk hg
            have C8 := Aside0.mk hc8
            have C9 := Aside0.mk (show W.drew.cell? ⟨b0, o0 + k, none⟩ = some (.string x0) from hx0)
            have L8 := Aside0.mk (show g < W.drew.heap.size from hlg)
            have L9 := Aside0.mk (show b0 < W.drew.heap.size from hb0)
            have HOKR := Aside0.mk hokr
            have HR9 := Aside0.mk hr9
            have HPUT := Aside0.mk hput
            have HBD := Aside0.mk (Below.trans HBL'.out (below_drew (Below.refl _ _)))
            have HSZ := Aside0.mk (show w1.heap.size ≤ W.drew.heap.size from (by have h_ := Below.size HBL'.out; exact h_))
            have HLN := Aside0.mk (show (hc.f2.length + 1) * 16 ≤ 140737488355328 by have := O6.out; omega)
            have HBG := Aside0.mk hbg
            have j0 : (0 : Int) ≤ (out.length : Int) := by omega
            have j1 : (out.length : Int) < (out.length : Int) + 1 := by omega
            have j2 : (0 : Int) ≤ (k : Int) := by omega
            have j3 : (k : Int) < (l1.length : Int) := by omega
            clear hc8 hf8 hokr hne9 hr9 hput hs0c hx0 hx0e hb0 hg hlg hbg hlt
            refine start_ (n := 16) (S := fun w' => w'.cell? ⟨g, out.length * 3 + 2, none⟩ = some (.slice A9 hc.f2.length c9) ∧ w'.cell? ⟨b0, o0 + k, none⟩ = some (.string x0)) (ds := [12, 15]) Bz0 (by kernel_rfl) rfl rfl ⟨C8.out, C9.out⟩ (fun hHeld => ?_)
            refine pure_ (i := 0) (N := some 106) (v := ?_) (a' := ?_) Bz1 rfl rfl (by kernel_rfl) (fun _ _ _ h => h) (Or.inl ⟨by rfl, ?_⟩) ?_ ?_; rotate_left; (focus intro w'; go_simp; with_reducible rfl); rotate_left; (focus go_simp; rfl)
            refine pure_ (i := 1) (N := some 107) (v := ?_) (a' := ?_) Bz2 rfl rfl (by kernel_rfl) (fun _ _ _ h => h) (Or.inl ⟨by rfl, ?_⟩) ?_ ?_; rotate_left; (focus intro w'; go_simp; with_reducible rfl); rotate_left; (focus go_simp; rfl)
            refine pure_ (i := 2) (N := some 108) (v := ?_) (a' := ?_) Bz3 rfl rfl (by kernel_rfl) (fun _ _ _ h => h) (Or.inl ⟨by rfl, ?_⟩) ?_ ?_; rotate_left; (focus intro w'; go_simp; with_reducible rfl); rotate_left; (focus go_simp; rfl)
            refine pure_ (i := 3) (N := some 109) (v := ?_) (a' := ?_) Bz4 rfl rfl (by kernel_rfl) (fun _ _ _ h => h) (Or.inl ⟨by rfl, ?_⟩) ?_ ?_; rotate_left; (focus intro w'; go_simp; with_reducible rfl); rotate_left; (focus go_simp; rfl)
            refine pure_ (i := 4) (N := some 110) (v := ?_) (a' := ?_) Bz5 rfl rfl (by kernel_rfl) (fun _ _ _ h => h) (Or.inl ⟨by rfl, ?_⟩) ?_ ?_; rotate_left; (focus intro w'; go_simp; with_reducible rfl); rotate_left; (focus go_simp; rfl)
            refine pure_ (i := 5) (N := some 111) (v := ?_) (a' := ?_) Bz6 rfl rfl (by kernel_rfl) (fun _ _ _ h => h) (Or.inl ⟨by rfl, ?_⟩) ?_ ?_; rotate_left; (focus intro w'; go_simp; with_reducible rfl); rotate_left; (focus go_simp; rfl)
            refine pure_ (i := 7) (N := some 113) (v := ?_) (a' := ?_) Bz7 rfl rfl (by kernel_rfl) (fun _ _ _ h => h) (Or.inl ⟨by rfl, ?_⟩) ?_ ?_; rotate_left; (focus intro w'; go_simp; with_reducible rfl); rotate_left; (focus go_simp; rfl)
            refine pure_ (i := 8) (N := some 114) (v := ?_) (a' := ?_) Bz8 rfl rfl (by kernel_rfl) (fun _ _ _ h => h) (Or.inl ⟨by rfl, ?_⟩) ?_ ?_; rotate_left; (focus intro w'; go_simp; with_reducible rfl); rotate_left; (focus go_simp; rfl)
            refine pure_ (i := 9) (N := some 115) (v := ?_) (a' := ?_) Bz9 rfl rfl (by kernel_rfl) (fun _ _ _ h => h) (Or.inl ⟨by rfl, ?_⟩) ?_ ?_; rotate_left; (focus intro w'; go_simp; with_reducible rfl); rotate_left; (focus go_simp; rfl)
            refine take_ (i := 6) (N := some 112) (v := ?_) (a' := ?_) Bz10 rfl rfl (by kernel_rfl) (fun _ _ _ h => h) (Or.inl ⟨by rfl, ?_⟩) hHeld ?_ ?_; rotate_left; (focus rintro w' ⟨s0, s1⟩; go_simp; with_reducible rfl); rotate_left; (focus go_simp; rfl)
            refine take_ (i := 10) (N := some 116) (v := ?_) (a' := ?_) Bz11 rfl rfl (by kernel_rfl) (fun _ _ _ h => h) (Or.inl ⟨by rfl, ?_⟩) hHeld ?_ ?_; rotate_left; (focus rintro w' ⟨s0, s1⟩; go_simp; with_reducible rfl); rotate_left; (focus go_simp; rfl)
            refine one_ (i := 11) (N := some 117) Bz12 rfl rfl (by kernel_rfl) (by decide) (fun K hK => ?_)
            refine value_ (w1 := ?_) (v := ?_) (by rfl) rfl ?_ ?_
            rotate_left 2
            ·go_simp
             constructor
             ·rfl
             ·rfl
            refine hK.out _ _ ⟨(cell_keep ((Below.refl _ _).alloc (Nat.le_refl _) _) (by exact L8.out) hHeld.1), (cell_keep ((Below.refl _ _).alloc (Nat.le_refl _) _) (by exact L9.out) hHeld.2)⟩ (fun hHeld => ?_)
            clear hK K
            refine norm_ (a' := ?_) ?_ ?_
            rotate_left
            ·show Act.put _ (some 117) _ = _
             simp only [Act.put, List.setIfInBounds_toArray, List.set_cons_zero, List.set_cons_succ, i64_w, i32_w]
             rfl
            refine last_ (i := 12) (N := some 118) Bz13 rfl rfl (by kernel_rfl) (by decide) (fun K hK => ?_)
            refine Kd.R_append_step Kd.string (w0 := w1) w1.heap.size (by rfl) (.tmp 112) (.tmp 117) 22 9 (.string ⟨#[]⟩) 16 (by rfl) Try.underlying22 info9 rfl (by decide) (by omega) (.slice A9 hc.f2.length c9) hc.f2 x0 [.string x0] okr (fun _ => False) (by rfl) (by rfl) rfl (fun _ h_ => h_.elim) HOKR.out HR9.out HBD.out HSZ.out HLN.out ?_
            intro v9 w5 hr9 hb9 hg9 hat9
            have HR9' := Aside0.mk hr9
            have HB9 := Aside0.mk hb9
            have hp9 := HPUT.out w5 v9 _ hg9 hr9
            have HP9 := Aside0.mk hp9.2.2.1
            have hc9 := hp9.1
            have hf9 := hp9.2.1
            obtain ⟨Av9, cv9, rfl⟩ := Kd.R_slice hr9
            clear hr9 hb9 hg9 hat9 hp9
            refine hK.out _ _ ?_
            clear hK K
            refine norm_ (a' := ?_) ?_ ?_
            rotate_left
            ·show Act.put _ (some 118) _ = _
             simp only [Act.put, List.setIfInBounds_toArray, List.set_cons_zero, List.set_cons_succ, i64_w, i32_w]
             rfl
            refine pure_ (i := 13) (N := some 119) (v := ?_) (a' := ?_) Bz14 rfl rfl (by kernel_rfl) (fun _ _ _ h => h) (Or.inl ⟨by rfl, ?_⟩) ?_ ?_; rotate_left; (focus intro w'; go_simp; with_reducible rfl); rotate_left; (focus go_simp; rfl)
            refine pure_ (i := 14) (N := some 120) (v := ?_) (a' := ?_) Bz15 rfl rfl (by kernel_rfl) (fun _ _ _ h => h) (Or.inl ⟨by rfl, ?_⟩) ?_ ?_; rotate_left; (focus intro w'; go_simp; with_reducible rfl); rotate_left; (focus go_simp; rfl)
            refine last_ (i := 15) (N := none) Bz16 rfl rfl (by kernel_rfl) (by decide) (fun K hK => ?_)
            refine skip_ (w1 := ?_) (by rfl) rfl ?_ ?_
            rotate_left
            ·go_simp
             rfl
            refine hK.out _ _ ?_
            clear hK K
            refine done_ (by kernel_rfl) ?_
            go_wp2
            go_roundg n'
            case measure => omega
            case rel => exact ⟨n', i, k + 1, p, out, some ⟨hc.f0, hc.f1, hc.f2 ++ [x0]⟩, rfl, rfl, by go_num, rfl, rfl, HG2, hpm, ⟨rdiff.ok_one HOK.out _ (by omega) (by omega) (by rw [← HHC.out]; simp) (by rw [← HHC.out]; simp)⟩, ⟨by have h_ := HP9.out; rw [List.length_append] at h_; exact h_⟩, ⟨HB9.out.setCell (p := ⟨g, out.length * 3 + 2, none⟩) (by exact HBG.out) _⟩⟩
           ·cases hg
     ·rw [rdiff.more_f hh]
      have hg := HG.out
      unfold rdiff at hg
      rw [if_neg hh] at hg
      obtain rfl := Option.some.inj hg
      clear hg hh
      go_wp2
      go_ret2
      refine ⟨_, rfl, ?_, Below.trans HB1.out (Below.mono HBL.out (Below.size HB1.out))⟩
      rw [← HXS.out]
      exact Kd.S_lower (kHa_weakS HS.out) (Below.size HB1.out)
  ·cases h
 ·rw [if_neg he] at h
  obtain ⟨rfl, rfl⟩ := Prod.mk.inj (Option.some.inj h)
  clear h
  have e1 : (e == 0) = false := by simpa using he
  have e2 : (e != 0) = true := by simpa using he
  have HR0 := Aside0.mk hr0
  have HR1 := Aside0.mk hr1
  clear hr0 hr1
  go_enter Try.func29, Try.ntmps29
  go_wp2_with (go_at_call 44; (with_reducible refine (sidingref14_Best.calls k A0 c0 l0 A1 c1 l1 m e _ HR0.out hc0 HR1.out hc1 HB.out).mono ?_); rintro e_ w1 ⟨v6, rfl, hv6, hb1⟩; obtain ⟨Am, cm, rfl⟩ := Kd.R_slice hv6; have HB1 := Aside0.mk hb1; clear hv6 hb1)
  go_ret2
  exact ⟨_, rfl, Kd.S_nil _ _ _ _ _, HB1.out⟩
end Go.Proofs.Ytahpbpacjciddaa.Pr
end
section
namespace Go.Proofs.Ytahpbpacjciddaa.Pr
open Go.RowKit Go.Proofs.YtahpbpacjciddaaW.PrintWords Go.Proofs.YtahpbpacjciddaaW.PrintLast Go.Proofs.YtahpbpacjciddaaW.PrintMore
attribute [local go_sem] max2_int min2_int max_two min_two max_three min_three max_four min_four   
mutual
def sidingref18_touched.l0 : Nat → List (S82) → List Bool → List Bool → Int → Option (List Bool × List Bool)
  | 0, _, _, _, _ => none
  | k + 1, x1, x6, x7, x8 => if x8 < (x1.length : Int) then (sidingref18_touched.l1 k x1 x6 x7 x8 0) else (some (x6, x7))
def sidingref18_touched.l1 : Nat → List (S82) → List Bool → List Bool → Int → Int → Option (List Bool × List Bool)
  | 0, _, _, _, _, _ => none
  | k + 1, x1, x6, x7, x8, x9 => if 0 ≤ x8 then (if x8 < (x1.length : Int) then (if x9 < (((rd_T82 x1 x8).f1).length : Int) then (if 0 ≤ (wrap64 (((rd_T82 x1 x8).f0) + x9)) then (if (wrap64 (((rd_T82 x1 x8).f0) + x9)) < (x6.length : Int) then (sidingref18_touched.l1 k x1 (x6.set ((wrap64 (((rd_T82 x1 x8).f0) + x9)) : Int).toNat true) x7 x8 (wrap64 (x9 + 1))) else (none)) else (none)) else (if (((rd_T82 x1 x8).f1).length : Int) = 0 then (if 0 ≤ ((rd_T82 x1 x8).f0) then (if ((rd_T82 x1 x8).f0) < (x7.length : Int) then (sidingref18_touched.l0 k x1 x6 (x7.set (((rd_T82 x1 x8).f0) : Int).toNat true) (wrap64 (x8 + 1))) else (none)) else (none)) else (sidingref18_touched.l0 k x1 x6 x7 (wrap64 (x8 + 1))))) else (none)) else (none)
end
def sidingref18_touched.f (k : Nat) (a0 : Int) (l1 : List (S82)) : Option (List Bool × List Bool) := if 0 ≤ a0 then (if (a0 : Int).toNat ≤ 281474976710656 then (if 0 ≤ (wrap64 (a0 + 1)) then (if (wrap64 (a0 + 1) : Int).toNat ≤ 281474976710656 then (sidingref18_touched.l0 k l1 (List.replicate (a0 : Int).toNat false) (List.replicate (wrap64 (a0 + 1) : Int).toNat false) 0) else (none)) else (none)) else (none)) else (none)
set_option maxHeartbeats 8000000 in
set_option maxRecDepth 100000 in
theorem sidingref18_touched.calls (k : Nat) (a0 : Int) (A1 : Option Addr) (c1 : Nat) (l1 : List (S82)) (r1 : List Bool) (r2 : List Bool) (w : World) (hr1 : Kd.C k82 w A1 l1.length l1) (hc1 : l1.length ≤ c1) (h : sidingref18_touched.f k a0 l1 = some (r1, r2)) :
  Calls Try.prog 30 #[.int .i64 a0, .slice A1 l1.length c1] w fun e w' => ∃ v0_ v1_ : Value, e = .returned (.tuple #[v0_, v1_]) ∧ Kd.R Kd.bool 4 w' w.heap.size (fun k_ => some k_ ≠ (v1_ : Value).ownBlock) v0_ r1 ∧ Kd.R Kd.bool 4 w' w.heap.size (fun k_ => some k_ ≠ (v0_ : Value).ownBlock) v1_ r2 ∧ Below w.heap.size w w' := by
 have HR1 := Aside0.mk hr1
 have HC1 := Aside0.mk hc1
 clear hr1 hc1
 have HB := Aside0.mk (Below.refl w.heap.size w)
 have H : (if 0 ≤ a0 then (if (a0 : Int).toNat ≤ 281474976710656 then (if 0 ≤ (wrap64 (a0 + 1)) then (if (wrap64 (a0 + 1) : Int).toNat ≤ 281474976710656 then (sidingref18_touched.l0 k l1 (List.replicate (a0 : Int).toNat false) (List.replicate (wrap64 (a0 + 1) : Int).toNat false) 0) else (none)) else (none)) else (none)) else (none)) = some (r1, r2) := h
 clear h
 by_cases c3 : 0 ≤ a0
 ·rw [if_pos c3] at H
  have c3b0 := eq_true c3
  have c3b1 : decide (0 ≤ a0) = true := decide_eq_true c3
  clear c3
  by_cases c4 : (a0 : Int).toNat ≤ 281474976710656
  ·rw [if_pos c4] at H
   have c4b0 := eq_true c4
   have c4b1 : decide ((a0 : Int).toNat ≤ 281474976710656) = true := decide_eq_true c4
   clear c4
   obtain ⟨y410, hy410⟩ : ∃ y_ : List Bool, y_ = (List.replicate (a0 : Int).toNat false) := ⟨_, rfl⟩
   replace H : (if 0 ≤ (wrap64 (a0 + 1)) then (if (wrap64 (a0 + 1) : Int).toNat ≤ 281474976710656 then (sidingref18_touched.l0 k l1 y410 (List.replicate (wrap64 (a0 + 1) : Int).toNat false) 0) else (none)) else (none)) = some (r1, r2) := by first | (rw [hy410]; with_reducible exact H) | (have H2_ := (Option.bind_some _ _).symm.trans H; rw [hy410]; with_reducible exact H2_) | (have H2_ := (Option.bind_some _ _).symm.trans H; with_reducible exact H2_) | with_reducible exact H | (rw [hy410]; exact H) | exact H
   have Ny410 := Aside0.mk hy410
   clear hy410
   obtain ⟨ji5, hji5⟩ : ∃ j_ : Int, (wrap64 (a0 + 1)) = j_ := ⟨_, rfl⟩
   replace H : (if 0 ≤ (ji5) then (if (ji5 : Int).toNat ≤ 281474976710656 then (sidingref18_touched.l0 k l1 y410 (List.replicate (ji5 : Int).toNat false) 0) else (none)) else (none)) = some (r1, r2) := by first | (rw [hji5] at H; exact H) | (simp only [hji5] at H ⊢; exact H)
   have hji5w : (IntKind.i64.wrap (a0 + 1)) = ji5 := (i64_w _).trans hji5
   by_cases c6 : 0 ≤ (ji5)
   ·rw [if_pos c6] at H
    have c6b0 := eq_true c6
    have c6b1 : decide (0 ≤ (ji5)) = true := decide_eq_true c6
    clear c6
    by_cases c7 : (ji5 : Int).toNat ≤ 281474976710656
    ·rw [if_pos c7] at H
     have c7b0 := eq_true c7
     have c7b1 : decide ((ji5 : Int).toNat ≤ 281474976710656) = true := decide_eq_true c7
     clear c7
     obtain ⟨y413, hy413⟩ : ∃ y_ : List Bool, y_ = (List.replicate (ji5 : Int).toNat false) := ⟨_, rfl⟩
     replace H : (sidingref18_touched.l0 k l1 y410 y413 0) = some (r1, r2) := by first | (rw [hy413]; with_reducible exact H) | (have H2_ := (Option.bind_some _ _).symm.trans H; rw [hy413]; with_reducible exact H2_) | (have H2_ := (Option.bind_some _ _).symm.trans H; with_reducible exact H2_) | with_reducible exact H | (rw [hy413]; exact H) | exact H
     have Ny413 := Aside0.mk hy413
     clear hy413
     have H' := Aside0.mk H
     clear H
     go_enter Try.func30, Try.ntmps30
     try go_wp2
     have n0_ := Aside0.mk (below_drew1 HB.out)
     clear HB
     have HB := n0_
     clear n0_
     refine start_ (n := 7) (S := fun w' => True) (ds := []) #[false, false, false, false, false, false, false] (by kernel_rfl) rfl rfl trivial (fun hHeld => ?_)
     generalize w.drew = w8 at HB hHeld ⊢
     refine pure_ (i := 0) (N := some 10) (v := ?_) (a' := ?_) #[true, false, false, false, false, false, false] rfl rfl (by kernel_rfl) (fun _ _ _ h => h) (Or.inl ⟨by rfl, ?_⟩) ?_ ?_; rotate_left; (focus intro w'; go_simp; with_reducible rfl); rotate_left; (focus go_simp; rfl)
     refine pure_ (i := 2) (N := some 12) (v := ?_) (a' := ?_) #[true, false, true, false, false, false, false] rfl rfl (by kernel_rfl) (fun _ _ _ h => h) (Or.inl ⟨by rfl, ?_⟩) ?_ ?_; rotate_left; (focus intro w'; go_simp; with_reducible rfl); rotate_left; (focus go_simp; rfl)
     refine pure_ (i := 3) (N := some 13) (v := ?_) (a' := ?_) #[true, false, true, true, false, false, false] rfl rfl (by kernel_rfl) (fun _ _ _ h => h) (Or.inl ⟨by rfl, ?_⟩) ?_ ?_; rotate_left; (focus intro w'; go_simp; with_reducible rfl); rotate_left; (focus go_simp; rfl)
     refine join_ (σ := Value × Value) 1 #[true, true, true, true, true, true, false] (fun s_ => [(11, s_.1), (14, s_.2), (6, s_.1)]) (fun s_ w' => (Kd.R Kd.bool 4 w' w.heap.size (fun k_ => some k_ ≠ (s_.2 : Value).ownBlock) s_.1 y410) ∧ (Kd.R Kd.bool 4 w' w.heap.size (fun k_ => some k_ ≠ (s_.1 : Value).ownBlock) s_.2 y413) ∧ (Below w.heap.size w w')) ?_ ?_
     rotate_left
     ·intro hCont
      refine two_ (i := 1) (j := 4) (Ni := some 11) (Nj := some 14) #[true, true, true, true, false, false, false] #[true, false, true, true, true, false, false] rfl rfl rfl rfl (by kernel_rfl) (by decide) (by decide) (fun K hK => ?_) (fun K hK => ?_)
      ·skip
       refine Kd.R_make_step Kd.bool _ 4 (by rfl) (N := 11) rfl 61 _ _ rfl a0 rfl rfl Try.underlying61 (.bool false) 1 info4 rfl (by decide) (by omega) false (ok := fun _ => True) (okp := fun _ => True) rfl (fun _ hk => hk) trivial (of_decide_eq_true (by first | (with_reducible assumption) | assumption)) (Nat.le_trans (Nat.mul_le_mul_right _ (of_decide_eq_true (by first | (with_reducible assumption) | assumption) : a0.toNat ≤ 281474976710656)) (by omega)) (Below.refl _ _) (Nat.le_refl _) ?_
       intro v411 w9 ho10 hb hg_ hnew_
       clear hg_ hnew_
       (first | rw [← Ny410.out] at ho10 | (simp only [Int.reduceToNat] at ho10; rw [← Ny410.out] at ho10))
       have n0_ := Aside0.mk (Kd.R_lower ho10 (below_size (by repeat (first | (with_reducible first | exact HB.out | apply below_alloc | apply pw_below_drewN | apply below_drew1) | exact HB.out))))
       have n1_ := Aside0.mk (below_step (by repeat (first | (with_reducible first | exact HB.out | apply below_alloc | apply pw_below_drewN | apply below_drew1) | exact HB.out)) hb)
       clear HB
       have HO412 := n0_
       have HB := n1_
       clear n0_ n1_
       clear hb ho10
       refine hK.out _ _ trivial (fun hHeld => ?_)
       clear hK K
       refine norm_ (a' := ?_) ?_ ?_
       rotate_left
       ·show Act.put _ (some 11) _ = _
        simp only [Act.put, List.setIfInBounds_toArray, List.set_cons_zero, List.set_cons_succ, i64_w, i32_w]
        rfl
       refine pure_ (i := 5) (N := some 6) (v := ?_) (a' := ?_) #[true, true, true, true, false, true, false] rfl rfl (by kernel_rfl) (fun _ _ _ h => h) (Or.inl ⟨by rfl, ?_⟩) ?_ ?_; rotate_left; (focus intro w'; go_simp; with_reducible rfl); rotate_left; (focus go_simp; rfl)
       refine one_ (i := 4) (N := some 14) #[true, true, true, true, true, true, false] rfl rfl (by kernel_rfl) (by decide) (fun K hK => ?_)
       refine Kd.R_make_step Kd.bool _ 4 (by rfl) (N := 14) rfl 61 _ _ rfl ji5 rfl rfl Try.underlying61 (.bool false) 1 info4 rfl (by decide) (by omega) false (ok := fun _ => True) (okp := fun _ => True) rfl (fun _ hk => hk) trivial (of_decide_eq_true (by first | (with_reducible assumption) | assumption)) (Nat.le_trans (Nat.mul_le_mul_right _ (of_decide_eq_true (by first | (with_reducible assumption) | assumption) : ji5.toNat ≤ 281474976710656)) (by omega)) (Below.refl _ _) (Nat.le_refl _) ?_
       intro v414 w11 ho12 hb hg_ hnew_
       clear hg_ hnew_
       (first | rw [← Ny413.out] at ho12 | (simp only [Int.reduceToNat] at ho12; rw [← Ny413.out] at ho12))
       have n0_ := Aside0.mk (Kd.R_elder' (by (with_reducible repeat (first | apply Kd.R_alloc | apply Kd.R_drewN | apply Kd.R_drew)); exact HO412.out) (Kd.R_base ho12) hb)
       have n1_ := Aside0.mk (Kd.R_lower (Kd.R_new' ho12 (Kd.R_lt (by (with_reducible repeat (first | apply Kd.R_alloc | apply Kd.R_drewN | apply Kd.R_drew)); exact HO412.out))) (below_size (by repeat (first | (with_reducible first | exact HB.out | apply below_alloc | apply pw_below_drewN | apply below_drew1) | exact HB.out))))
       have n2_ := Aside0.mk (below_step (by repeat (first | (with_reducible first | exact HB.out | apply below_alloc | apply pw_below_drewN | apply below_drew1) | exact HB.out)) hb)
       clear HO412
       clear HB
       have HO412 := n0_
       have HO415 := n1_
       have HB := n2_
       clear n0_ n1_ n2_
       clear hb ho12
       refine hK.out _ _ trivial (fun hHeld => ?_)
       clear hK K
       refine norm_ (a' := ?_) ?_ ?_
       rotate_left
       ·show Act.put _ (some 14) _ = _
        simp only [Act.put, List.setIfInBounds_toArray, List.set_cons_zero, List.set_cons_succ, i64_w, i32_w]
        rfl
       exact norm_ (by simp only [putAll, Act.put, List.setIfInBounds_toArray, List.set_cons_zero, List.set_cons_succ]) (hCont (v411, v414) _ ⟨(by (with_reducible repeat (first | apply Kd.R_alloc | apply Kd.R_drewN | apply Kd.R_drew)); exact Kd.R_mono HO412.out (fun _ hk => hk.2)), (by (with_reducible repeat (first | apply Kd.R_alloc | apply Kd.R_drewN | apply Kd.R_drew)); exact Kd.R_mono HO415.out (fun _ hk => hk.2)), (by repeat (first | (with_reducible first | exact HB.out | apply below_alloc | apply pw_below_drewN | apply below_drew1) | exact HB.out))⟩)
      ·skip
       refine Kd.R_make_step Kd.bool _ 4 (by rfl) (N := 14) rfl 61 _ _ rfl ji5 rfl rfl Try.underlying61 (.bool false) 1 info4 rfl (by decide) (by omega) false (ok := fun _ => True) (okp := fun _ => True) rfl (fun _ hk => hk) trivial (of_decide_eq_true (by first | (with_reducible assumption) | assumption)) (Nat.le_trans (Nat.mul_le_mul_right _ (of_decide_eq_true (by first | (with_reducible assumption) | assumption) : ji5.toNat ≤ 281474976710656)) (by omega)) (Below.refl _ _) (Nat.le_refl _) ?_
       intro v414 w9 ho10 hb hg_ hnew_
       clear hg_ hnew_
       (first | rw [← Ny413.out] at ho10 | (simp only [Int.reduceToNat] at ho10; rw [← Ny413.out] at ho10))
       have n0_ := Aside0.mk (Kd.R_lower ho10 (below_size (by repeat (first | (with_reducible first | exact HB.out | apply below_alloc | apply pw_below_drewN | apply below_drew1) | exact HB.out))))
       have n1_ := Aside0.mk (below_step (by repeat (first | (with_reducible first | exact HB.out | apply below_alloc | apply pw_below_drewN | apply below_drew1) | exact HB.out)) hb)
       clear HB
       have HO415 := n0_
       have HB := n1_
       clear n0_ n1_
       clear hb ho10
       refine hK.out _ _ trivial (fun hHeld => ?_)
       clear hK K
       refine norm_ (a' := ?_) ?_ ?_
       rotate_left
       ·show Act.put _ (some 14) _ = _
        simp only [Act.put, List.setIfInBounds_toArray, List.set_cons_zero, List.set_cons_succ, i64_w, i32_w]
        rfl
       refine one_ (i := 1) (N := some 11) #[true, true, true, true, true, false, false] rfl rfl (by kernel_rfl) (by decide) (fun K hK => ?_)
       refine Kd.R_make_step Kd.bool _ 4 (by rfl) (N := 11) rfl 61 _ _ rfl a0 rfl rfl Try.underlying61 (.bool false) 1 info4 rfl (by decide) (by omega) false (ok := fun _ => True) (okp := fun _ => True) rfl (fun _ hk => hk) trivial (of_decide_eq_true (by first | (with_reducible assumption) | assumption)) (Nat.le_trans (Nat.mul_le_mul_right _ (of_decide_eq_true (by first | (with_reducible assumption) | assumption) : a0.toNat ≤ 281474976710656)) (by omega)) (Below.refl _ _) (Nat.le_refl _) ?_
       intro v411 w11 ho12 hb hg_ hnew_
       clear hg_ hnew_
       (first | rw [← Ny410.out] at ho12 | (simp only [Int.reduceToNat] at ho12; rw [← Ny410.out] at ho12))
       have n0_ := Aside0.mk (Kd.R_elder' (by (with_reducible repeat (first | apply Kd.R_alloc | apply Kd.R_drewN | apply Kd.R_drew)); exact HO415.out) (Kd.R_base ho12) hb)
       have n1_ := Aside0.mk (Kd.R_lower (Kd.R_new' ho12 (Kd.R_lt (by (with_reducible repeat (first | apply Kd.R_alloc | apply Kd.R_drewN | apply Kd.R_drew)); exact HO415.out))) (below_size (by repeat (first | (with_reducible first | exact HB.out | apply below_alloc | apply pw_below_drewN | apply below_drew1) | exact HB.out))))
       have n2_ := Aside0.mk (below_step (by repeat (first | (with_reducible first | exact HB.out | apply below_alloc | apply pw_below_drewN | apply below_drew1) | exact HB.out)) hb)
       clear HO415
       clear HB
       have HO415 := n0_
       have HO412 := n1_
       have HB := n2_
       clear n0_ n1_ n2_
       clear hb ho12
       refine hK.out _ _ trivial (fun hHeld => ?_)
       clear hK K
       refine norm_ (a' := ?_) ?_ ?_
       rotate_left
       ·show Act.put _ (some 11) _ = _
        simp only [Act.put, List.setIfInBounds_toArray, List.set_cons_zero, List.set_cons_succ, i64_w, i32_w]
        rfl
       refine pure_ (i := 5) (N := some 6) (v := ?_) (a' := ?_) #[true, true, true, true, true, true, false] rfl rfl (by kernel_rfl) (fun _ _ _ h => h) (Or.inl ⟨by rfl, ?_⟩) ?_ ?_; rotate_left; (focus intro w'; go_simp; with_reducible rfl); rotate_left; (focus go_simp; rfl)
       exact norm_ (by simp only [putAll, Act.put, List.setIfInBounds_toArray, List.set_cons_zero, List.set_cons_succ]) (hCont (v411, v414) _ ⟨(by (with_reducible repeat (first | apply Kd.R_alloc | apply Kd.R_drewN | apply Kd.R_drew)); exact Kd.R_mono HO412.out (fun _ hk => hk.2)), (by (with_reducible repeat (first | apply Kd.R_alloc | apply Kd.R_drewN | apply Kd.R_drew)); exact Kd.R_mono HO415.out (fun _ hk => hk.2)), (by repeat (first | (with_reducible first | exact HB.out | apply below_alloc | apply pw_below_drewN | apply below_drew1) | exact HB.out))⟩)
     rintro ⟨v411, v414⟩ w13 ⟨h0_, h1_, h2_⟩
     have n0_ : Aside0 (Kd.R Kd.bool 4 w13 w.heap.size (fun k_ => some k_ ≠ (v414 : Value).ownBlock) v411 y410) := ⟨h0_⟩
     have n1_ : Aside0 (Kd.R Kd.bool 4 w13 w.heap.size (fun k_ => some k_ ≠ (v411 : Value).ownBlock) v414 y413) := ⟨h1_⟩
     have n2_ : Aside0 (Below w.heap.size w w13) := ⟨h2_⟩
     clear HB
     clear h0_ h1_ h2_
     have HO412 := n0_
     have HO415 := n1_
     have HB := n2_
     clear n0_ n1_ n2_
     have hHeld := trivial
     refine norm_ (a' := ?_) ?_ ?_
     rotate_left
     ·simp only [putAll, Act.put, List.setIfInBounds_toArray, List.set_cons_zero, List.set_cons_succ]
      rfl
     refine pure_ (i := 6) (N := some 7) (v := ?_) (a' := ?_) #[true, true, true, true, true, true, true] rfl rfl (by kernel_rfl) (fun _ _ _ h => h) (Or.inl ⟨by rfl, ?_⟩) ?_ ?_; rotate_left; (focus intro w'; go_simp; with_reducible rfl); rotate_left; (focus go_simp; rfl)
     refine done_ (by kernel_rfl) ?_
     try go_wp2
     go_loopg [8] k (fun kq v8 w' => ∃ (x6_1 : List Bool) (x7_1 : List Bool) (x8_1 : Int), v8 = .int .i64 x8_1 ∧ Aside0 (sidingref18_touched.l0 kq l1 x6_1 x7_1 x8_1 = some (r1, r2)) ∧ Aside0 (kq ≤ k) ∧ Aside0 (Kd.R Kd.bool 4 w' w.heap.size (fun k_ => some k_ ≠ (v414 : Value).ownBlock) v411 x6_1) ∧ Aside0 (Kd.R Kd.bool 4 w' w.heap.size (fun k_ => some k_ ≠ (v411 : Value).ownBlock) v414 x7_1) ∧ Aside0 (Below w.heap.size w w'))
     case atStart => exact ⟨(y410), (y413), (0), (by first | rfl | (simp; done) | (simp [*]; done)), H', ⟨Nat.le_refl _⟩, ⟨by (with_reducible repeat (first | apply Kd.R_alloc | apply Kd.R_drewN | apply Kd.R_drew)); exact HO412.out⟩, ⟨by (with_reducible repeat (first | apply Kd.R_alloc | apply Kd.R_drewN | apply Kd.R_drew)); exact HO415.out⟩, ⟨by repeat (first | (with_reducible first | exact HB.out | apply below_alloc | apply pw_below_drewN | apply below_drew1) | exact HB.out)⟩⟩
     case round =>
      clear H'
      try clear c1
      try clear p2
      try clear c3
      try clear c3b0
      try clear c3b1
      try clear c4
      try clear c4b0
      try clear c4b1
      try clear c6
      try clear c6b0
      try clear c6b1
      try clear p6
      try clear c7
      try clear c7b0
      try clear c7b1
      obtain ⟨x6_1, x7_1, x8_1, rfl, HA, HK1, HO_6, HO_7, HB⟩ := hrel
      cases gk with
      | zero => exact absurd HA.out (by simp [sidingref18_touched.l0])
      | succ k1 =>
       have H := HA.out
       clear HA
       simp only [sidingref18_touched.l0] at H
       by_cases c14 : x8_1 < (l1.length : Int)
       ·rw [if_pos c14] at H
        have c14b0 : decide (x8_1 < (l1.length : Int)) = true := decide_eq_true c14
        clear c14
        have H' := Aside0.mk H
        clear H
        go_wp2
        go_loopg [9] k1 (fun kq v9 w' => ∃ (x6_2 : List Bool) (x9_2 : Int), v9 = .int .i64 x9_2 ∧ Aside0 (sidingref18_touched.l1 kq l1 x6_2 x7_1 x8_1 x9_2 = some (r1, r2)) ∧ Aside0 (kq ≤ k1) ∧ Aside0 (Kd.R Kd.bool 4 w' w.heap.size (fun k_ => some k_ ≠ (v414 : Value).ownBlock) v411 x6_2) ∧ Aside0 (Kd.R Kd.bool 4 w' w.heap.size (fun k_ => some k_ ≠ (v411 : Value).ownBlock) v414 x7_1) ∧ Aside0 (Below w.heap.size w w'))
        case atStart => exact ⟨(x6_1), (0), (by first | rfl | (simp; done) | (simp [*]; done)), H', ⟨Nat.le_refl _⟩, ⟨by (with_reducible repeat (first | apply Kd.R_alloc | apply Kd.R_drewN | apply Kd.R_drew)); exact HO_6.out⟩, ⟨by (with_reducible repeat (first | apply Kd.R_alloc | apply Kd.R_drewN | apply Kd.R_drew)); exact HO_7.out⟩, ⟨by repeat (first | (with_reducible first | exact HB.out | apply below_alloc | apply pw_below_drewN | apply below_drew1) | exact HB.out)⟩⟩
        case round =>
         clear H'
         try clear c1
         try clear p2
         try clear c3
         try clear c3b0
         try clear c3b1
         try clear c4
         try clear c4b0
         try clear c4b1
         try clear c6
         try clear c6b0
         try clear c6b1
         try clear p6
         try clear c7
         try clear c7b0
         try clear c7b1
         try clear c14
         try clear c14b0
         try clear p2
         try clear p6
         obtain ⟨x6_2, x9_2, rfl, HA, HK2, HO_6, HO_7, HB⟩ := hrel
         cases gk with
         | zero => exact absurd HA.out (by simp [sidingref18_touched.l1])
         | succ k2 =>
          have H := HA.out
          clear HA
          simp only [sidingref18_touched.l1] at H
          by_cases c15 : 0 ≤ x8_1
          ·rw [if_pos c15] at H
           have c15b0 : decide (0 ≤ x8_1) = true := decide_eq_true c15
           clear c15
           by_cases c16 : x8_1 < (l1.length : Int)
           ·rw [if_pos c16] at H
            have c16b0 : decide (x8_1 < (l1.length : Int)) = true := decide_eq_true c16
            clear c16
            by_cases c17 : x9_2 < (((rd_T82 l1 x8_1).f1).length : Int)
            ·rw [if_pos c17] at H
             have c17b0 : decide (x9_2 < (((rd_T82 l1 x8_1).f1).length : Int)) = true := decide_eq_true c17
             clear c17
             obtain ⟨ji18, hji18⟩ : ∃ j_ : Int, (wrap64 (((rd_T82 l1 x8_1).f0) + x9_2)) = j_ := ⟨_, rfl⟩
             replace H : (if 0 ≤ (ji18) then (if (ji18) < (x6_2.length : Int) then (sidingref18_touched.l1 k2 l1 (x6_2.set ((ji18) : Int).toNat true) x7_1 x8_1 (wrap64 (x9_2 + 1))) else (none)) else (none)) = some (r1, r2) := by first | (rw [hji18] at H; exact H) | (simp only [hji18] at H ⊢; exact H)
             have hji18w : (IntKind.i64.wrap (((rd_T82 l1 x8_1).f0) + x9_2)) = ji18 := (i64_w _).trans hji18
             by_cases c19 : 0 ≤ (ji18)
             ·rw [if_pos c19] at H
              have c19b0 : decide (0 ≤ (ji18)) = true := decide_eq_true c19
              clear c19
              by_cases c20 : (ji18) < (x6_2.length : Int)
              ·rw [if_pos c20] at H
               have c20b0 : decide ((ji18) < (x6_2.length : Int)) = true := decide_eq_true c20
               clear c20
               obtain ⟨y418, hy418⟩ : ∃ y_ : List Bool, y_ = (x6_2.set ((ji18) : Int).toNat true) := ⟨_, rfl⟩
               replace H : (sidingref18_touched.l1 k2 l1 y418 x7_1 x8_1 (wrap64 (x9_2 + 1))) = some (r1, r2) := by first | (rw [hy418]; with_reducible exact H) | (have H2_ := (Option.bind_some _ _).symm.trans H; rw [hy418]; with_reducible exact H2_) | (have H2_ := (Option.bind_some _ _).symm.trans H; with_reducible exact H2_) | with_reducible exact H | (rw [hy418]; exact H) | exact H
               have Ny418 := Aside0.mk hy418
               clear hy418
               have H' := Aside0.mk H
               clear H
               have p416 : 0 ≤ (x8_1 : Int) := of_decide_eq_true (by first | (with_reducible assumption) | assumption)
               have q416 : x8_1 < (l1.length : Int) := of_decide_eq_true (by first | (with_reducible assumption) | assumption)
               obtain ⟨ad416, A416_1, c416_1, A416_2, c416_2, e416, hx416_0, hx416_1, hx416_2, hl416_1, hi416_1, hl416_2, hi416_2⟩ := at_T82 HR1.out x8_1 p416 q416
               cases e416
               replace hx416_0 := (HB.out.cell (World.block_lt_of_cell? w _ hx416_0)).trans hx416_0
               replace hx416_1 := (HB.out.cell (World.block_lt_of_cell? w _ hx416_1)).trans hx416_1
               replace hx416_2 := (HB.out.cell (World.block_lt_of_cell? w _ hx416_2)).trans hx416_2
               have HR416_1 := Aside0.mk hi416_1
               have HC416_1 := Aside0.mk hl416_1
               clear hi416_1 hl416_1
               have HR416_2 := Aside0.mk hi416_2
               have HC416_2 := Aside0.mk hl416_2
               clear hi416_2 hl416_2
               replace p416 := eq_true p416
               replace q416 := eq_true q416
               have p417 : 0 ≤ (x8_1 : Int) := of_decide_eq_true (by first | (with_reducible assumption) | assumption)
               have q417 : x8_1 < (l1.length : Int) := of_decide_eq_true (by first | (with_reducible assumption) | assumption)
               obtain ⟨ad417, A417_1, c417_1, A417_2, c417_2, e417, hx417_0, hx417_1, hx417_2, hl417_1, hi417_1, hl417_2, hi417_2⟩ := at_T82 HR1.out x8_1 p417 q417
               obtain rfl : ad416 = ad417 := (by injection e417)
               replace hx417_0 := (HB.out.cell (World.block_lt_of_cell? w _ hx417_0)).trans hx417_0
               replace hx417_1 := (HB.out.cell (World.block_lt_of_cell? w _ hx417_1)).trans hx417_1
               replace hx417_2 := (HB.out.cell (World.block_lt_of_cell? w _ hx417_2)).trans hx417_2
               have HR417_1 := Aside0.mk hi417_1
               have HC417_1 := Aside0.mk hl417_1
               clear hi417_1 hl417_1
               have HR417_2 := Aside0.mk hi417_2
               have HC417_2 := Aside0.mk hl417_2
               clear hi417_2 hl417_2
               replace p417 := eq_true p417
               replace q417 := eq_true q417
               have ea_ := Option.some.inj (hx416_1.symm.trans hx417_1)
               injection ea_ with ea_ en_ ec_
               subst ea_
               subst ec_
               clear en_
               have ea_ := Option.some.inj (hx416_2.symm.trans hx417_2)
               injection ea_ with ea_ en_ ec_
               subst ea_
               subst ec_
               clear en_
               have p21 : 0 ≤ ((ji18) : Int) := of_decide_eq_true (by first | (with_reducible assumption) | assumption)
               have q21 : ((ji18) : Int) < ((x6_2.length : Int) : Int) := of_decide_eq_true (by first | (with_reducible assumption) | assumption)
               obtain ⟨go21, co21, eo21, gb21, gl21, cl21, HG21⟩ := Kd.R_form HO_6.out (by omega)
               (first | cases eo21 | (injection eo21 with ea_ en_ ec_; (first | subst ea_ | (injection ea_ with ea_; subst ea_)); subst ec_; clear en_))
               have GB21 := Aside0.mk gb21
               have GG21 := Aside0.mk HG21
               clear gb21 gl21 HG21
               obtain ⟨hx21_0, hf21_0⟩ := Kd.R_celln false HO_6.out ((ji18) : Int) p21 q21
               replace p21 := eq_true p21
               replace q21 := eq_true q21
               have HP22 := Kd.R_putg HO_6.out ((ji18) : Int) true
               go_wp2_with (first | ((with_reducible refine gate_store (t := 4) (p := 39) rfl ?_); refine store_event (t := 4) (p := 39) (v := ?vo_w23) (w1 := (wr.setCell ⟨go21, ((ji18) : Int).toNat, none⟩ (.bool true))) ?hg ?ho ?hn ?hr ?_; (case ho => rfl); (case hg => rfl); (case hn => rfl); (case hr => first | (go_simp; done) | (go_simp; rfl)); intro w23 hw; have hg : wr.grownBy w23 (some go21) := (by rw [hw]; exact HP22.2); have hp_ : Kd.R Kd.bool 4 w23 w.heap.size (fun k_ => some k_ ≠ (v414 : Value).ownBlock) (.slice (some ⟨go21, 0, none⟩) x6_2.length co21) y418 := (by rw [hw, Ny418.out]; exact HP22.1); clear HP22; have n0_ := Aside0.mk (hp_); have n1_ := Aside0.mk (Kd.R_after (v := (.slice (some ⟨go21, 0, none⟩) x6_2.length co21)) (v1 := (.slice (some ⟨go21, 0, none⟩) x6_2.length co21)) (ok := (fun _ => True)) (by (with_reducible repeat (first | apply Kd.R_alloc | apply Kd.R_drewN | apply Kd.R_drew)); exact Kd.R_mono HO_7.out (fun _ hk => ⟨trivial, hk⟩)) hg (.inl rfl)); have n2_ := Aside0.mk ((by rw [hw]; exact below_set (HB.out) GB21.out : Below w.heap.size w w23)); clear HO_6; clear HO_7; clear HB; have HO_6 := n0_; have HO_7 := n1_; have HB := n2_; clear n0_ n1_ n2_; clear hg hw hp_))
               go_roundg k2
               case measure => have := HK1.out; have := HK2.out; omega
               case rel => exact ⟨(y418), (wrap64 (x9_2 + 1)), (by first | rfl | (simp; done) | (simp [*]; done)), H', ⟨by have := HK1.out; have := HK2.out; omega⟩, ⟨by (with_reducible repeat (first | apply Kd.R_alloc | apply Kd.R_drewN | apply Kd.R_drew)); exact HO_6.out⟩, ⟨by (with_reducible repeat (first | apply Kd.R_alloc | apply Kd.R_drewN | apply Kd.R_drew)); exact Kd.R_mono HO_7.out (fun _ hk => hk.2)⟩, ⟨by repeat (first | (with_reducible first | exact HB.out | apply below_alloc | apply pw_below_drewN | apply below_drew1) | exact HB.out)⟩⟩
              ·rw [if_neg c20] at H
               exact absurd H (by simp)
             ·rw [if_neg c19] at H
              exact absurd H (by simp)
            ·rw [if_neg c17] at H
             have c17b0 : decide (x9_2 < (((rd_T82 l1 x8_1).f1).length : Int)) = false := decide_eq_false c17
             clear c17
             by_cases c24 : (((rd_T82 l1 x8_1).f1).length : Int) = 0
             ·rw [if_pos c24] at H
              have c24b0 : ((((rd_T82 l1 x8_1).f1).length : Int) == 0) = true := beq_iff_eq.mpr c24
              have c24b1 : ((((rd_T82 l1 x8_1).f1).length : Int) != 0) = false := bne_eq_false_iff_eq.mpr c24
              clear c24
              by_cases c25 : 0 ≤ ((rd_T82 l1 x8_1).f0)
              ·rw [if_pos c25] at H
               have c25b0 : decide (0 ≤ ((rd_T82 l1 x8_1).f0)) = true := decide_eq_true c25
               clear c25
               by_cases c26 : ((rd_T82 l1 x8_1).f0) < (x7_1.length : Int)
               ·rw [if_pos c26] at H
                have c26b0 : decide (((rd_T82 l1 x8_1).f0) < (x7_1.length : Int)) = true := decide_eq_true c26
                clear c26
                obtain ⟨y421, hy421⟩ : ∃ y_ : List Bool, y_ = (x7_1.set (((rd_T82 l1 x8_1).f0) : Int).toNat true) := ⟨_, rfl⟩
                replace H : (sidingref18_touched.l0 k2 l1 x6_2 y421 (wrap64 (x8_1 + 1))) = some (r1, r2) := by first | (rw [hy421]; with_reducible exact H) | (have H2_ := (Option.bind_some _ _).symm.trans H; rw [hy421]; with_reducible exact H2_) | (have H2_ := (Option.bind_some _ _).symm.trans H; with_reducible exact H2_) | with_reducible exact H | (rw [hy421]; exact H) | exact H
                have Ny421 := Aside0.mk hy421
                clear hy421
                have H' := Aside0.mk H
                clear H
                have p416 : 0 ≤ (x8_1 : Int) := of_decide_eq_true (by first | (with_reducible assumption) | assumption)
                have q416 : x8_1 < (l1.length : Int) := of_decide_eq_true (by first | (with_reducible assumption) | assumption)
                obtain ⟨ad416, A416_1, c416_1, A416_2, c416_2, e416, hx416_0, hx416_1, hx416_2, hl416_1, hi416_1, hl416_2, hi416_2⟩ := at_T82 HR1.out x8_1 p416 q416
                cases e416
                replace hx416_0 := (HB.out.cell (World.block_lt_of_cell? w _ hx416_0)).trans hx416_0
                replace hx416_1 := (HB.out.cell (World.block_lt_of_cell? w _ hx416_1)).trans hx416_1
                replace hx416_2 := (HB.out.cell (World.block_lt_of_cell? w _ hx416_2)).trans hx416_2
                have HR416_1 := Aside0.mk hi416_1
                have HC416_1 := Aside0.mk hl416_1
                clear hi416_1 hl416_1
                have HR416_2 := Aside0.mk hi416_2
                have HC416_2 := Aside0.mk hl416_2
                clear hi416_2 hl416_2
                replace p416 := eq_true p416
                replace q416 := eq_true q416
                have p419 : 0 ≤ (x8_1 : Int) := of_decide_eq_true (by first | (with_reducible assumption) | assumption)
                have q419 : x8_1 < (l1.length : Int) := of_decide_eq_true (by first | (with_reducible assumption) | assumption)
                obtain ⟨ad419, A419_1, c419_1, A419_2, c419_2, e419, hx419_0, hx419_1, hx419_2, hl419_1, hi419_1, hl419_2, hi419_2⟩ := at_T82 HR1.out x8_1 p419 q419
                obtain rfl : ad416 = ad419 := (by injection e419)
                replace hx419_0 := (HB.out.cell (World.block_lt_of_cell? w _ hx419_0)).trans hx419_0
                replace hx419_1 := (HB.out.cell (World.block_lt_of_cell? w _ hx419_1)).trans hx419_1
                replace hx419_2 := (HB.out.cell (World.block_lt_of_cell? w _ hx419_2)).trans hx419_2
                have HR419_1 := Aside0.mk hi419_1
                have HC419_1 := Aside0.mk hl419_1
                clear hi419_1 hl419_1
                have HR419_2 := Aside0.mk hi419_2
                have HC419_2 := Aside0.mk hl419_2
                clear hi419_2 hl419_2
                replace p419 := eq_true p419
                replace q419 := eq_true q419
                have ea_ := Option.some.inj (hx416_1.symm.trans hx419_1)
                injection ea_ with ea_ en_ ec_
                subst ea_
                subst ec_
                clear en_
                have ea_ := Option.some.inj (hx416_2.symm.trans hx419_2)
                injection ea_ with ea_ en_ ec_
                subst ea_
                subst ec_
                clear en_
                have p420 : 0 ≤ (x8_1 : Int) := of_decide_eq_true (by first | (with_reducible assumption) | assumption)
                have q420 : x8_1 < (l1.length : Int) := of_decide_eq_true (by first | (with_reducible assumption) | assumption)
                obtain ⟨ad420, A420_1, c420_1, A420_2, c420_2, e420, hx420_0, hx420_1, hx420_2, hl420_1, hi420_1, hl420_2, hi420_2⟩ := at_T82 HR1.out x8_1 p420 q420
                obtain rfl : ad416 = ad420 := (by injection e420)
                replace hx420_0 := (HB.out.cell (World.block_lt_of_cell? w _ hx420_0)).trans hx420_0
                replace hx420_1 := (HB.out.cell (World.block_lt_of_cell? w _ hx420_1)).trans hx420_1
                replace hx420_2 := (HB.out.cell (World.block_lt_of_cell? w _ hx420_2)).trans hx420_2
                have HR420_1 := Aside0.mk hi420_1
                have HC420_1 := Aside0.mk hl420_1
                clear hi420_1 hl420_1
                have HR420_2 := Aside0.mk hi420_2
                have HC420_2 := Aside0.mk hl420_2
                clear hi420_2 hl420_2
                replace p420 := eq_true p420
                replace q420 := eq_true q420
                have ea_ := Option.some.inj (hx416_1.symm.trans hx420_1)
                injection ea_ with ea_ en_ ec_
                subst ea_
                subst ec_
                clear en_
                have ea_ := Option.some.inj (hx416_2.symm.trans hx420_2)
                injection ea_ with ea_ en_ ec_
                subst ea_
                subst ec_
                clear en_
                have p27 : 0 ≤ (((rd_T82 l1 x8_1).f0) : Int) := of_decide_eq_true (by first | (with_reducible assumption) | assumption)
                have q27 : (((rd_T82 l1 x8_1).f0) : Int) < ((x7_1.length : Int) : Int) := of_decide_eq_true (by first | (with_reducible assumption) | assumption)
                obtain ⟨go27, co27, eo27, gb27, gl27, cl27, HG27⟩ := Kd.R_form HO_7.out (by omega)
                (first | cases eo27 | (injection eo27 with ea_ en_ ec_; (first | subst ea_ | (injection ea_ with ea_; subst ea_)); subst ec_; clear en_))
                have GB27 := Aside0.mk gb27
                have GG27 := Aside0.mk HG27
                clear gb27 gl27 HG27
                obtain ⟨hx27_0, hf27_0⟩ := Kd.R_celln false HO_7.out (((rd_T82 l1 x8_1).f0) : Int) p27 q27
                replace p27 := eq_true p27
                replace q27 := eq_true q27
                have HP28 := Kd.R_putg HO_7.out (((rd_T82 l1 x8_1).f0) : Int) true
                go_wp2_with (first | ((with_reducible refine gate_store (t := 4) (p := 53) rfl ?_); refine store_event (t := 4) (p := 53) (v := ?vo_w29) (w1 := (wr.setCell ⟨go27, (((rd_T82 l1 x8_1).f0) : Int).toNat, none⟩ (.bool true))) ?hg ?ho ?hn ?hr ?_; (case ho => rfl); (case hg => rfl); (case hn => rfl); (case hr => first | (go_simp; done) | (go_simp; rfl)); intro w29 hw; have hg : wr.grownBy w29 (some go27) := (by rw [hw]; exact HP28.2); have hp_ : Kd.R Kd.bool 4 w29 w.heap.size (fun k_ => some k_ ≠ (v411 : Value).ownBlock) (.slice (some ⟨go27, 0, none⟩) x7_1.length co27) y421 := (by rw [hw, Ny421.out]; exact HP28.1); clear HP28; have n0_ := Aside0.mk (Kd.R_after (v := (.slice (some ⟨go27, 0, none⟩) x7_1.length co27)) (v1 := (.slice (some ⟨go27, 0, none⟩) x7_1.length co27)) (ok := (fun _ => True)) (by (with_reducible repeat (first | apply Kd.R_alloc | apply Kd.R_drewN | apply Kd.R_drew)); exact Kd.R_mono HO_6.out (fun _ hk => ⟨trivial, hk⟩)) hg (.inl rfl)); have n1_ := Aside0.mk (hp_); have n2_ := Aside0.mk ((by rw [hw]; exact below_set (HB.out) GB27.out : Below w.heap.size w w29)); clear HO_6; clear HO_7; clear HB; have HO_6 := n0_; have HO_7 := n1_; have HB := n2_; clear n0_ n1_ n2_; clear hg hw hp_))
                go_roundg k2
                case measure => have := HK1.out; have := HK2.out; omega
                case rel => exact ⟨(x6_2), (y421), (wrap64 (x8_1 + 1)), (by first | rfl | (simp; done) | (simp [*]; done)), H', ⟨by have := HK1.out; have := HK2.out; omega⟩, ⟨by (with_reducible repeat (first | apply Kd.R_alloc | apply Kd.R_drewN | apply Kd.R_drew)); exact Kd.R_mono HO_6.out (fun _ hk => hk.2)⟩, ⟨by (with_reducible repeat (first | apply Kd.R_alloc | apply Kd.R_drewN | apply Kd.R_drew)); exact HO_7.out⟩, ⟨by repeat (first | (with_reducible first | exact HB.out | apply below_alloc | apply pw_below_drewN | apply below_drew1) | exact HB.out)⟩⟩
               ·rw [if_neg c26] at H
                exact absurd H (by simp)
              ·rw [if_neg c25] at H
               exact absurd H (by simp)
             ·rw [if_neg c24] at H
              have c24b0 : ((((rd_T82 l1 x8_1).f1).length : Int) == 0) = false := beq_eq_false_iff_ne.mpr c24
              have c24b1 : ((((rd_T82 l1 x8_1).f1).length : Int) != 0) = true := bne_iff_ne.mpr c24
              have c24b2 : ¬ (((rd_T82 l1 x8_1).f1) = []) := fun h_ => c24 (by rw [h_]; rfl)
              have H' := Aside0.mk H
              clear H
              have p416 : 0 ≤ (x8_1 : Int) := of_decide_eq_true (by first | (with_reducible assumption) | assumption)
              have q416 : x8_1 < (l1.length : Int) := of_decide_eq_true (by first | (with_reducible assumption) | assumption)
              obtain ⟨ad416, A416_1, c416_1, A416_2, c416_2, e416, hx416_0, hx416_1, hx416_2, hl416_1, hi416_1, hl416_2, hi416_2⟩ := at_T82 HR1.out x8_1 p416 q416
              cases e416
              replace hx416_0 := (HB.out.cell (World.block_lt_of_cell? w _ hx416_0)).trans hx416_0
              replace hx416_1 := (HB.out.cell (World.block_lt_of_cell? w _ hx416_1)).trans hx416_1
              replace hx416_2 := (HB.out.cell (World.block_lt_of_cell? w _ hx416_2)).trans hx416_2
              have HR416_1 := Aside0.mk hi416_1
              have HC416_1 := Aside0.mk hl416_1
              clear hi416_1 hl416_1
              have HR416_2 := Aside0.mk hi416_2
              have HC416_2 := Aside0.mk hl416_2
              clear hi416_2 hl416_2
              replace p416 := eq_true p416
              replace q416 := eq_true q416
              have p419 : 0 ≤ (x8_1 : Int) := of_decide_eq_true (by first | (with_reducible assumption) | assumption)
              have q419 : x8_1 < (l1.length : Int) := of_decide_eq_true (by first | (with_reducible assumption) | assumption)
              obtain ⟨ad419, A419_1, c419_1, A419_2, c419_2, e419, hx419_0, hx419_1, hx419_2, hl419_1, hi419_1, hl419_2, hi419_2⟩ := at_T82 HR1.out x8_1 p419 q419
              obtain rfl : ad416 = ad419 := (by injection e419)
              replace hx419_0 := (HB.out.cell (World.block_lt_of_cell? w _ hx419_0)).trans hx419_0
              replace hx419_1 := (HB.out.cell (World.block_lt_of_cell? w _ hx419_1)).trans hx419_1
              replace hx419_2 := (HB.out.cell (World.block_lt_of_cell? w _ hx419_2)).trans hx419_2
              have HR419_1 := Aside0.mk hi419_1
              have HC419_1 := Aside0.mk hl419_1
              clear hi419_1 hl419_1
              have HR419_2 := Aside0.mk hi419_2
              have HC419_2 := Aside0.mk hl419_2
              clear hi419_2 hl419_2
              replace p419 := eq_true p419
              replace q419 := eq_true q419
              have ea_ := Option.some.inj (hx416_1.symm.trans hx419_1)
              injection ea_ with ea_ en_ ec_
              subst ea_
              subst ec_
              clear en_
              have ea_ := Option.some.inj (hx416_2.symm.trans hx419_2)
              injection ea_ with ea_ en_ ec_
              subst ea_
              subst ec_
              clear en_
              go_wp2
              go_roundg k2
              case measure => have := HK1.out; have := HK2.out; omega
              case rel => exact ⟨(x6_2), (x7_1), (wrap64 (x8_1 + 1)), (by first | rfl | (simp; done) | (simp [*]; done)), H', ⟨by have := HK1.out; have := HK2.out; omega⟩, ⟨by (with_reducible repeat (first | apply Kd.R_alloc | apply Kd.R_drewN | apply Kd.R_drew)); exact HO_6.out⟩, ⟨by (with_reducible repeat (first | apply Kd.R_alloc | apply Kd.R_drewN | apply Kd.R_drew)); exact HO_7.out⟩, ⟨by repeat (first | (with_reducible first | exact HB.out | apply below_alloc | apply pw_below_drewN | apply below_drew1) | exact HB.out)⟩⟩
           ·rw [if_neg c16] at H
            exact absurd H (by simp)
          ·rw [if_neg c15] at H
           exact absurd H (by simp)
       ·rw [if_neg c14] at H
        have c14b0 : decide (x8_1 < (l1.length : Int)) = false := decide_eq_false c14
        clear c14
        simp only [Option.some.injEq, Prod.mk.injEq] at H
        obtain ⟨rfl, rfl⟩ := H
        go_wp2
        go_ret2
        exact ⟨_, _, by first | rfl | (simp [errW_none, errW_some] <;> rfl) | (simp only [← hji5]; first | rfl | (simp [errW_none, errW_some] <;> rfl)) | (simp [*, errW_none, errW_some] <;> rfl), by (with_reducible repeat (first | apply Kd.R_alloc | apply Kd.R_drewN | apply Kd.R_drew)); exact HO_6.out, by (with_reducible repeat (first | apply Kd.R_alloc | apply Kd.R_drewN | apply Kd.R_drew)); exact HO_7.out, by repeat (first | (with_reducible first | exact HB.out | apply below_alloc | apply pw_below_drewN | apply below_drew1) | exact HB.out)⟩
    ·rw [if_neg c7] at H
     exact absurd H (by simp)
   ·rw [if_neg c6] at H
    exact absurd H (by simp)
  ·rw [if_neg c4] at H
   exact absurd H (by simp)
 ·rw [if_neg c3] at H
  exact absurd H (by simp)
end Go.Proofs.Ytahpbpacjciddaa.Pr
end
