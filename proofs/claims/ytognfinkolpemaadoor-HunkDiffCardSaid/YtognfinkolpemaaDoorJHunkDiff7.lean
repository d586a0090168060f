/- Part 7 of the proof of HunkDiff: texts put together. -/
import Derived.Test.YtognfinkolpemaaDoorJHunkDiff5
import Derived.Test.YtognfinkolpemaaDoorJHunkDiff6
namespace Go.Proofs.YtognfinkolpemaaDoor.Pr
open Go.RowKit Go.Proofs.YtognfinkolpemaaDoorW.PrintWords Go.Proofs.YtognfinkolpemaaDoorW.PrintLast Go.Proofs.YtognfinkolpemaaDoorW.PrintMore
attribute [local go_sem] max2_int min2_int max_two min_two
set_option linter.unusedVariables false
set_option linter.unusedSimpArgs false
def widen.cut (a : List ByteArray) (i j : Int) : List ByteArray := (a.take j.toNat).drop i.toNat
def widen.fresh (n e : Int) (i : Nat) (h : S36) : Bool := decide (i = 0) || (decide (0 < n) && decide (e < max 0 (h.f0 - n))) || decide (n = 0)
def widen.start (n e : Int) (i : Nat) (h : S36) (out : List S36) (cur : Option S36) : Option (Int × List S36 × S36) :=
  if widen.fresh n e i h = true then some (max 0 (h.f0 - n), out ++ cur.toList, ⟨max 0 (h.f0 - n), [], []⟩) else cur.map fun c => (e, out, c)
def widen.grow (a : List ByteArray) (h : S36) (e : Int) (c : S36) : Option S36 :=
  if 0 ≤ e ∧ e ≤ h.f0 ∧ c.f1.length ≤ 10000000 ∧ c.f2.length ≤ 10000000 then some ⟨c.f0, c.f1 ++ widen.cut a e h.f0 ++ h.f1, c.f2 ++ widen.cut a e h.f0 ++ h.f2⟩ else none
def widen.till (a : List ByteArray) (n : Int) (h : S36) : List S36 → Int
  | [] => min (a.length : Int) (h.f0 + (h.f1.length : Int) + n)
  | x :: _ => min (min (a.length : Int) (h.f0 + (h.f1.length : Int) + n)) x.f0
def widen.tail (a : List ByteArray) (e z : Int) (c : S36) : Option S36 :=
  if 0 ≤ e ∧ e ≤ z ∧ z ≤ (a.length : Int) ∧ c.f1.length ≤ 10000000 ∧ c.f2.length ≤ 10000000 then some ⟨c.f0, c.f1 ++ widen.cut a e z, c.f2 ++ widen.cut a e z⟩ else none
def widen.go (a : List ByteArray) (n : Int) : Nat → List S36 → Int → List S36 → Option S36 → Option (List S36)
  | _, [], _, out, cur => some (out ++ cur.toList)
  | i, h :: t, e, out, cur => if 0 ≤ h.f0 ∧ h.f0 ≤ (a.length : Int) ∧ h.f1.length ≤ 1000000 ∧ h.f2.length ≤ 1000000 then
      (widen.start n e i h out cur).bind fun s => (widen.grow a h s.1 s.2.2).bind fun c => (widen.tail a (h.f0 + (h.f1.length : Int)) (widen.till a n h t) c).bind fun c2 => widen.go a n (i + 1) t (widen.till a n h t) s.2.1 (some c2)
    else none
def hunk_Widen.g (k : Nat) (l0 : List ByteArray) (l1 : List S36) (a2 : Int) (e : Int) : Option (List S36 × Int) :=
  if e = 0 then (hunk_Check.f k l1).bind fun e => if e = 0 then (if a2 < 0 ∨ 5 < a2 then some ([], 2) else (hunk_fits.f k l0 l1).bind fun b => if b = true then (if l0.length ≤ 1000000 ∧ l1.length ≤ 1000000 then (widen.go l0 a2 0 l1 0 [] none).map fun r => (r, 0) else none) else some ([], 6)) else some ([], e)
  else some ([], e)
def hunk_Widen.f (k : Nat) (l0 : List ByteArray) (l1 : List S36) (a2 : Int) : Option (List S36 × Int) := (lines_Join.f l0).bind fun j => hunk_Widen.g k l0 l1 a2 j.2
theorem widen.last {α : Type} (l : List α) (x z : α) : (l ++ [x]).getD l.length z = x := by
  rw [List.getD_eq_getElem?_getD]
  simp
theorem widen.setlast {α : Type} (l : List α) (x y : α) : (l ++ [x]).set l.length y = l ++ [y] := by simp
theorem widen.lend1 {e : Nat} {W : World} {base g cap : Nat} {ok : Nat → Prop} {out : List S36} {h : S36} (hS : Kd.S kHa e W base ok (.slice (some ⟨g, 0, none⟩) (out.length + 1) cap) (out ++ [h])) (hfs : ∀ k, W.heap.size ≤ k → ok k) :
    ∃ (v1 : Value) (okr : Nat → Prop), W.cell? ⟨g, out.length * 3 + 1, none⟩ = some v1 ∧ W.frozen? ⟨g, out.length * 3 + 1, none⟩ = false ∧ (∀ k, W.heap.size ≤ k → okr k) ∧ (∀ k, okr k → ok k ∧ k ≠ g) ∧ Kd.string.R 9 W base okr v1 h.f1 ∧
      ∀ (w1 : World) (v' : Value) (ys : List ByteArray), W.grownBy w1 v1.ownBlock → Kd.string.R 9 w1 base okr v' ys → w1.cell? ⟨g, out.length * 3 + 1, none⟩ = some v1 ∧ w1.frozen? ⟨g, out.length * 3 + 1, none⟩ = false ∧
        Kd.S kHa e (w1.setCell ⟨g, out.length * 3 + 1, none⟩ v') base ok (.slice (some ⟨g, 0, none⟩) (out.length + 1) cap) (out ++ [⟨h.f0, ys, h.f2⟩]) ∧ w1.grownBy (w1.setCell ⟨g, out.length * 3 + 1, none⟩ v') (some g) := by
  have h1 := kHa_lendg1 hS hfs out.length (Nat.lt_succ_self _)
  simp only [widen.last, widen.setlast] at h1
  exact h1
theorem widen.lend2 {e : Nat} {W : World} {base g cap : Nat} {ok : Nat → Prop} {out : List S36} {h : S36} (hS : Kd.S kHa e W base ok (.slice (some ⟨g, 0, none⟩) (out.length + 1) cap) (out ++ [h])) (hfs : ∀ k, W.heap.size ≤ k → ok k) :
    ∃ (v1 : Value) (okr : Nat → Prop), W.cell? ⟨g, out.length * 3 + 2, none⟩ = some v1 ∧ W.frozen? ⟨g, out.length * 3 + 2, none⟩ = false ∧ (∀ k, W.heap.size ≤ k → okr k) ∧ (∀ k, okr k → ok k ∧ k ≠ g) ∧ Kd.string.R 9 W base okr v1 h.f2 ∧
      ∀ (w1 : World) (v' : Value) (ys : List ByteArray), W.grownBy w1 v1.ownBlock → Kd.string.R 9 w1 base okr v' ys → w1.cell? ⟨g, out.length * 3 + 2, none⟩ = some v1 ∧ w1.frozen? ⟨g, out.length * 3 + 2, none⟩ = false ∧
        Kd.S kHa e (w1.setCell ⟨g, out.length * 3 + 2, none⟩ v') base ok (.slice (some ⟨g, 0, none⟩) (out.length + 1) cap) (out ++ [⟨h.f0, h.f1, ys⟩]) ∧ w1.grownBy (w1.setCell ⟨g, out.length * 3 + 2, none⟩ v') (some g) := by
  have h1 := kHa_lendg2 hS hfs out.length (Nat.lt_succ_self _)
  simp only [widen.last, widen.setlast] at h1
  exact h1
theorem widen.grown2 {a b c : World} {r r' : Option Nat} (h : a.grownBy b r) (k : b.grownBy c r') (hr : r' = r ∨ ∃ x, r' = some x ∧ a.heap.size ≤ x) : a.grownBy c r := by
  rcases hr with rfl | ⟨x, rfl, hx⟩
  · exact World.grownBy.trans h k
  · exact ⟨k.os.trans h.os, k.tape.trans h.tape, k.output.trans h.output, Nat.le_trans h.size k.size, fun i hi hne => (k.block i (Nat.lt_of_lt_of_le hi h.size) (fun he => by injection he with he; omega)).trans (h.block i hi hne)⟩
theorem widen.far6 {a b c : World} {r r' : Option Nat} {hb : Nat} {o : Obj} (h : b.heap[hb]? = some o) (k : b.grownBy c r') (hr : r' = r ∨ ∃ x, r' = some x ∧ a.heap.size ≤ x) (hne : r = some hb → False) (hlt : hb < a.heap.size) : c.heap[hb]? = some o := by
  refine blk_grown h k (fun he => ?_)
  rcases hr with rfl | ⟨x, rfl, hx⟩
  · exact hne he.symm
  · injection he with he
    omega
theorem widen.lt_nil {α : Type} {h : α} {i n : Nat} (hit : i + [h].length = n) : decide ((i : Int) + 1 < (n : Int)) = false := by
  simp only [List.length_cons, List.length_nil] at hit
  exact decide_eq_false (by omega)
theorem widen.lt_cons {α : Type} {h x : α} {t : List α} {i n : Nat} (hit : i + (h :: x :: t).length = n) : decide ((i : Int) + 1 < (n : Int)) = true ∧ i + 1 < n := by
  simp only [List.length_cons] at hit
  exact ⟨decide_eq_true (by omega), by omega⟩
set_option maxHeartbeats 8000000 in
set_option maxRecDepth 100000 in
theorem hunk_Widen.calls (k : Nat) (A0 : Option Addr) (c0 : Nat) (l0 : List ByteArray) (A1 : Option Addr) (c1 : Nat) (l1 : List S36) (a2 : Int) (r1 : List S36) (r2 : Int) (w : World) (hr0 : Kd.C Kd.string w A0 l0.length l0) (hc0 : l0.length ≤ c0) (hr1 : Kd.C k36 w A1 l1.length l1) (hc1 : l1.length ≤ c1) (h : hunk_Widen.f k l0 l1 a2 = some (r1, r2)) :
    Calls Tryd.prog 8 #[.slice A0 l0.length c0, .slice A1 l1.length c1, .int .i64 a2] w fun e w' => ∃ v0_ : Value, e = .returned (.tuple #[v0_, .int .i64 r2]) ∧ Kd.S k36 36 w' w.heap.size (fun _ => True) v0_ r1 ∧ Below w.heap.size w w' := by
  have hu := Tryd.underlying36
  unfold hunk_Widen.f at h
  replace h := Option.bind_eq_some_iff.1 h
  obtain ⟨⟨jb, je⟩, hj, h⟩ := h
  unfold hunk_Widen.g at h
  dsimp only at h
  have HJ := Aside0.mk hj
  have HR0 := Aside0.mk hr0
  have HR1 := Aside0.mk hr1
  have HC0 := Aside0.mk hc0
  have HC1 := Aside0.mk hc1
  clear hr0 hr1 hc0 hc1 hj
  by_cases he : je = 0
  · subst he
    rw [if_pos rfl] at h
    replace h := Option.bind_eq_some_iff.1 h
    obtain ⟨ce, hce, h⟩ := h
    have HCE := Aside0.mk hce
    clear hce
    by_cases he : ce = 0
    · subst he
      rw [if_pos rfl] at h
      by_cases hn : a2 < 0 ∨ 5 < a2
      · rw [if_pos hn] at h
        obtain ⟨rfl, rfl⟩ := Prod.mk.inj (Option.some.inj h)
        clear h
        have ret : ∀ W, Below w.heap.size w W → ∃ v0_ : Value, Ending.returned (.tuple #[.slice none 0 0, .int .i64 2]) = .returned (.tuple #[v0_, .int .i64 2]) ∧ Kd.S k36 36 W w.heap.size (fun _ => True) v0_ ([] : List S36) ∧ Below w.heap.size w W := fun W hB => ⟨_, rfl, Kd.S_nil _ _ _ _ _, hB⟩
        by_cases h0 : a2 < 0
        · have q0 : decide (a2 < 0) = true := decide_eq_true h0
          go_enter Tryd.func8, Tryd.ntmps8
          go_wp2_with (first | (go_at_call 22; (with_reducible refine (lines_Join.calls A0 c0 l0 jb 0 _ HR0.out HC0.out HJ.out).mono ?_); rintro e_ w1 ⟨v18, rfl, hv18, hb1⟩; obtain ⟨A18, c18, rfl⟩ := Kd.V_slice hv18; have HB1 := Aside0.mk hb1; clear hv18 hb1) | (go_at_call 16; (with_reducible refine (hunk_Check.calls k A1 c1 l1 0 _ (Kd.C_below HR1.out HB1.out) HC1.out HCE.out).mono ?_); rintro e_ w2 ⟨rfl, hb2⟩; have HB2 := Aside0.mk (Below.trans HB1.out (Below.mono hb2 (Below.size HB1.out))); clear hb2))
          go_ret2
          exact ret _ HB2.out
        · have q0 : decide (a2 < 0) = false := decide_eq_false h0
          have q1 : decide (5 < a2) = true := decide_eq_true (by omega)
          go_enter Tryd.func8, Tryd.ntmps8
          go_wp2_with (first | (go_at_call 22; (with_reducible refine (lines_Join.calls A0 c0 l0 jb 0 _ HR0.out HC0.out HJ.out).mono ?_); rintro e_ w1 ⟨v18, rfl, hv18, hb1⟩; obtain ⟨A18, c18, rfl⟩ := Kd.V_slice hv18; have HB1 := Aside0.mk hb1; clear hv18 hb1) | (go_at_call 16; (with_reducible refine (hunk_Check.calls k A1 c1 l1 0 _ (Kd.C_below HR1.out HB1.out) HC1.out HCE.out).mono ?_); rintro e_ w2 ⟨rfl, hb2⟩; have HB2 := Aside0.mk (Below.trans HB1.out (Below.mono hb2 (Below.size HB1.out))); clear hb2))
          go_ret2
          exact ret _ HB2.out
      · rw [if_neg hn] at h
        have q0 : decide (a2 < 0) = false := decide_eq_false (by omega)
        have q1 : decide (5 < a2) = false := decide_eq_false (by omega)
        replace h := Option.bind_eq_some_iff.1 h
        obtain ⟨fi, hfi, h⟩ := h
        have HFI := Aside0.mk hfi
        clear hfi
        cases fi with
        | false =>
          rw [if_neg Bool.false_ne_true] at h
          obtain ⟨rfl, rfl⟩ := Prod.mk.inj (Option.some.inj h)
          clear h
          go_enter Tryd.func8, Tryd.ntmps8
          go_wp2_with (first | (go_at_call 22; (with_reducible refine (lines_Join.calls A0 c0 l0 jb 0 _ HR0.out HC0.out HJ.out).mono ?_); rintro e_ w1 ⟨v18, rfl, hv18, hb1⟩; obtain ⟨A18, c18, rfl⟩ := Kd.V_slice hv18; have HB1 := Aside0.mk hb1; clear hv18 hb1) | (go_at_call 16; (with_reducible refine (hunk_Check.calls k A1 c1 l1 0 _ (Kd.C_below HR1.out HB1.out) HC1.out HCE.out).mono ?_); rintro e_ w2 ⟨rfl, hb2⟩; have HB2 := Aside0.mk (Below.trans HB1.out (Below.mono hb2 (Below.size HB1.out))); clear hb2) | (go_at_call 23; (with_reducible refine (hunk_fits.calls k A0 c0 l0 A1 c1 l1 false _ (Kd.C_below HR0.out HB2.out) HC0.out (Kd.C_below HR1.out HB2.out) HC1.out HFI.out).mono ?_); rintro e_ w3 ⟨rfl, hb3⟩; have HB3 := Aside0.mk (Below.trans HB2.out (Below.mono hb3 (Below.size HB2.out))); clear hb3))
          go_ret2
          exact ⟨_, rfl, Kd.S_nil _ _ _ _ _, HB3.out⟩
        | true =>
          rw [if_pos rfl] at h
          split at h
          · rename_i hlen
            replace h := Option.map_eq_some_iff.1 h
            obtain ⟨r, hr, e_⟩ := h
            obtain ⟨rfl, rfl⟩ := Prod.mk.inj e_
            clear e_
            have HR := Aside0.mk hr
            clear hr
            go_enter Tryd.func8, Tryd.ntmps8
            go_wp2_with (first | (go_at_call 22; (with_reducible refine (lines_Join.calls A0 c0 l0 jb 0 _ HR0.out HC0.out HJ.out).mono ?_); rintro e_ w1 ⟨v18, rfl, hv18, hb1⟩; obtain ⟨A18, c18, rfl⟩ := Kd.V_slice hv18; have HB1 := Aside0.mk hb1; clear hv18 hb1) | (go_at_call 16; (with_reducible refine (hunk_Check.calls k A1 c1 l1 0 _ (Kd.C_below HR1.out HB1.out) HC1.out HCE.out).mono ?_); rintro e_ w2 ⟨rfl, hb2⟩; have HB2 := Aside0.mk (Below.trans HB1.out (Below.mono hb2 (Below.size HB1.out))); clear hb2) | (go_at_call 23; (with_reducible refine (hunk_fits.calls k A0 c0 l0 A1 c1 l1 true _ (Kd.C_below HR0.out HB2.out) HC0.out (Kd.C_below HR1.out HB2.out) HC1.out HFI.out).mono ?_); rintro e_ w3 ⟨rfl, hb3⟩; have HB3 := Aside0.mk (Below.trans HB2.out (Below.mono hb3 (Below.size HB2.out))); clear hb3))
            have hL0 : l0.length ≤ 1000000 := hlen.1
            have hL1 : l1.length ≤ 1000000 := hlen.2
            have hn0 : 0 ≤ a2 := by omega
            have hn5 : a2 ≤ 5 := by omega
            clear hlen hn
            have HRr := Aside0.mk (Kd.C_below HR0.out HB3.out)
            have HRl := Aside0.mk (Kd.C_below HR1.out HB3.out)
            clear HR0 HR1 HB1 HB2
            have HR0 := HRr
            have HR1 := HRl
            clear HRr HRl
            go_loopg [11, 12, 43] l1.length (fun nq v11 v12 v43 wr => ∃ (i : Nat) (t : List S36) (e : Int) (out : List S36) (cur : Option S36), t.length = nq ∧ i + t.length = l1.length ∧ v43 = .int .i64 (i : Int) ∧ v12 = .int .i64 e ∧ Aside0 (widen.go l0 a2 i t e out cur = some r) ∧ Aside0 (l1.drop i = t) ∧ Aside0 (out.length + cur.toList.length ≤ i ∧ (i = 0 → cur = none)) ∧ Aside0 (Kd.S kHa 36 wr w3.heap.size (fun _ => True) v11 (out ++ cur.toList)) ∧ Aside0 (Below w3.heap.size w3 wr))
            case atStart => exact ⟨0, l1, 0, [], none, rfl, Nat.zero_add _, rfl, rfl, HR, ⟨rfl⟩, ⟨⟨Nat.le_refl _, fun _ => rfl⟩⟩, ⟨Kd.S_nil _ _ _ _ _⟩, ⟨Below.refl _ _⟩⟩
            case round =>
              clear HR
              obtain ⟨i, t, e, out, cur, hnq, hit, rfl, rfl, HG, HT, HO, HS, HBL⟩ := hrel
              have hg := HG.out
              clear HG
              cases t with
              | nil =>
                have hi : i = l1.length := by simpa using hit
                have ci : decide ((i : Int) < (l1.length : Int)) = false := decide_eq_false (by omega)
                unfold widen.go at hg
                obtain rfl := Option.some.inj hg
                clear hg
                obtain ⟨A11, c11, rfl⟩ := Kd.S_slice HS.out
                go_wp2
                go_ret2
                exact ⟨_, rfl, Kd.S_lower (kHa_weakS HS.out) (Below.size HB3.out), Below.trans HB3.out (Below.mono HBL.out (Below.size HB3.out))⟩
              | cons h t =>
                have hi : i < l1.length := by simp only [List.length_cons] at hit; omega
                have ci : decide ((i : Int) < (l1.length : Int)) = true := decide_eq_true (by omega)
                have hh : rd_T36 l1 (i : Int) = h := by
                  unfold rd_T36
                  rw [Int.toNat_natCast, List.getD_eq_getElem?_getD]
                  have h_ := congrArg List.head? HT.out
                  rw [List.head?_drop] at h_
                  rw [h_]
                  rfl
                unfold widen.go at hg
                split at hg
                case isFalse => cases hg
                rename_i hgd
                replace hg := Option.bind_eq_some_iff.1 hg
                obtain ⟨⟨e1, out1, c⟩, hst, hg⟩ := hg
                replace hg := Option.bind_eq_some_iff.1 hg
                obtain ⟨cg, hgr, hg⟩ := hg
                replace hg := Option.bind_eq_some_iff.1 hg
                obtain ⟨ct, htl, hg⟩ := hg
                dsimp only at hgr hg
                obtain ⟨d0, d1, d2, d3⟩ := hgd
                obtain ⟨ad, Ah1, ch1, Ah2, ch2, rfl, hx0, hx1, hx2, hl1, hi1, hl2, hi2⟩ := at_T36 HR1.out (i : Int) (by omega) (by omega)
                simp only [Int.toNat_natCast] at hx0 hx1 hx2
                replace hx0 := (HBL.out.cell (World.block_lt_of_cell? _ _ hx0)).trans hx0
                replace hx1 := (HBL.out.cell (World.block_lt_of_cell? _ _ hx1)).trans hx1
                replace hx2 := (HBL.out.cell (World.block_lt_of_cell? _ _ hx2)).trans hx2
                rw [hh] at hx0 hx1 hx2 hl1 hi1 hl2 hi2
                have p0 : (0 : Int) ≤ (i : Int) := by omega
                have p1 : (i : Int) < (l1.length : Int) := by omega
                have HST := Aside0.mk hst
                have HGR := Aside0.mk hgr
                have HTL := Aside0.mk htl
                have HG := Aside0.mk hg
                have HX1 := Aside0.mk hi1
                have HX2 := Aside0.mk hi2
                clear hst hgr htl hg hi1 hi2 hl1 hl2
                have HIT := Aside0.mk hit
                have HNQ := Aside0.mk hnq
                clear hit hnq
                go_upto_region 16 with ((with_reducible refine gate_dst (N := 14) rfl ?_); refine box_event ?hg (N := 14) ?hd (cs := #[.int .i64 0, .slice none 0 0, .slice none 0 0]) (t := 36) ?hr ?_; (case hd => rfl); (case hg => rfl); (case hr => first | (go_simp; done) | (go_simp; rfl)); intro hb hbe w7 hbox hb7; have BK7 := Aside0.mk hbox; have HB7 := Aside0.mk (below_then HBL.out (Below.size HBL.out) hb7); have HBE := Aside0.mk hbe; have HGW := Aside0.mk hb7; clear hbox hb7 hbe; have hcz0 : w7.cell? ⟨hb, 0, none⟩ = some (.int .i64 0) := (blk_cell BK7.out 0).trans rfl; have hcz1 : w7.cell? ⟨hb, 1, none⟩ = some (.slice none 0 0) := (blk_cell BK7.out 1).trans rfl; have hcz2 : w7.cell? ⟨hb, 2, none⟩ = some (.slice none 0 0) := (blk_cell BK7.out 2).trans rfl; have hfz0 := blk_frozen BK7.out 0; have hfz1 := blk_frozen BK7.out 1; have hfz2 := blk_frozen BK7.out 2)
                have hHB : ∀ k, k < wr.heap.size → k ≠ hb := fun k hk => by have := HBE.out; omega
                have HS7 := Aside0.mk (Kd.S_below (Kd.S_mono (ok' := fun k => k ≠ hb) (Kd.S_bound HS.out) (fun k hk => hHB k hk.2.2.1)) HGW.out)
                have HBG7 := Aside0.mk (show w3.heap.size ≤ hb by rw [HBE.out]; exact Below.size HBL.out)
                have CH1 := Aside0.mk (show Kd.string.C w3 Ah1 h.f1.length h.f1 from HX1.out)
                have CH2 := Aside0.mk (show Kd.string.C w3 Ah2 h.f2.length h.f2 from HX2.out)
                clear HS hcz0 hcz1 hcz2 hfz0 hfz1 hfz2 hx0 hx1 hx2 hHB
                go_cut [15] (fun s15 wc => s15 = .int .i64 (max 0 (h.f0 - a2)) ∧ Aside0 (Kd.S kHa 36 wc w3.heap.size (fun k => k ≠ hb) u11 (out ++ cur.toList)) ∧ Aside0 (Below w3.heap.size w3 wc) ∧ Aside0 (wc.heap[hb]? = some (.cells #[.int .i64 h.f0, .slice Ah1 h.f1.length ch1, .slice Ah2 h.f2.length ch2] 36 (0, 0))))
                case first =>
                  have hS : ∀ W, Kd.S kHa 36 W w3.heap.size (fun k => k ≠ hb) u11 (out ++ cur.toList) → ∀ (j : Nat) v, Kd.S kHa 36 (W.setCell ⟨hb, j, none⟩ v) w3.heap.size (fun k => k ≠ hb) u11 (out ++ cur.toList) := fun W hW j v => Kd.S_far hW (p := ⟨hb, j, none⟩) (fun _ hk => hk) v
                  have hBt : ∀ W, Below w3.heap.size w3 W → ∀ (j : Nat) v, Below w3.heap.size w3 (W.setCell ⟨hb, j, none⟩ v) := fun W hW j v => below_set hW HBG7.out
                  have HSt := Aside0.mk hS
                  have HBt := Aside0.mk hBt
                  have BK8 := Aside0.mk (blk_put (blk_put (blk_put BK7.out 0 (.int .i64 h.f0) rfl) 1 (.slice Ah1 h.f1.length ch1) rfl) 2 (.slice Ah2 h.f2.length ch2) rfl)
                  have hcA := (blk_cell BK8.out 0).trans rfl
                  clear hS hBt
                  by_cases m0 : 0 < h.f0 - a2
                  · go_wp2
                    go_meet
                    exact ⟨congrArg (Value.int .i64) (by omega), ⟨HSt.out _ (HSt.out _ (HSt.out _ HS7.out _ _) _ _) _ _⟩, ⟨HBt.out _ (HBt.out _ (HBt.out _ HB7.out _ _) _ _) _ _⟩, BK8⟩
                  · go_wp2
                    go_meet
                    exact ⟨congrArg (Value.int .i64) (by omega), ⟨HSt.out _ (HSt.out _ (HSt.out _ HS7.out _ _) _ _) _ _⟩, ⟨HBt.out _ (HBt.out _ (HBt.out _ HB7.out _ _) _ _) _ _⟩, BK8⟩
                case rest =>
                  obtain ⟨rfl, HS, HBL', BK⟩ := hcut
                  clear HBL HS7 HB7 BK7
                  have HBL := HBL'
                  clear HBL'
                  obtain ⟨W0, rfl⟩ : ∃ W, W = wc := ⟨_, rfl⟩
                  have hlW := blk_lt BK.out
                  have BKL := Aside0.mk hlW
                  clear hlW
                  obtain ⟨mx, hmx⟩ : ∃ mx, mx = max 0 (h.f0 - a2) := ⟨_, rfl⟩
                  rw [← hmx]
                  have HMX := Aside0.mk hmx
                  clear hmx
                  go_upto_region 17 with fail
                  go_cut [67] (fun s67 wc => s67 = .bool (widen.fresh a2 e i h) ∧ wc = W0)
                  case first =>
                    have hfr : widen.fresh a2 e i h = (decide (i = 0) || (decide (0 < a2) && decide (e < mx)) || decide (a2 = 0)) := by rw [HMX.out]; rfl
                    by_cases f0 : i = 0
                    · have b0 : ((i : Int) == 0) = true := by simpa using f0
                      have E := Aside0.mk (show widen.fresh a2 e i h = true by rw [hfr, decide_eq_true f0]; rfl)
                      clear hfr f0
                      go_wp2
                      go_meet
                      exact ⟨congrArg Value.bool E.out.symm, rfl⟩
                    · have b0 : ((i : Int) == 0) = false := by simpa using f0
                      rw [decide_eq_false f0, Bool.false_or] at hfr
                      clear f0
                      by_cases f1 : a2 = 0
                      · have b1 : decide (0 < a2) = false := decide_eq_false (by omega)
                        have b2 : (a2 == 0) = true := by simpa using f1
                        have E := Aside0.mk (show widen.fresh a2 e i h = true by rw [hfr, b1, decide_eq_true f1]; rfl)
                        clear hfr f1
                        go_wp2
                        go_meet
                        exact ⟨congrArg Value.bool E.out.symm, rfl⟩
                      · have b1 : decide (0 < a2) = true := decide_eq_true (by omega)
                        have b2 : (a2 == 0) = false := by simpa using f1
                        rw [b1, decide_eq_false f1, Bool.true_and, Bool.or_false] at hfr
                        by_cases f2 : e < mx
                        · have b3 : decide (e < mx) = true := decide_eq_true f2
                          have E := Aside0.mk (hfr.trans b3)
                          clear hfr
                          go_wp2
                          go_meet
                          exact ⟨congrArg Value.bool E.out.symm, rfl⟩
                        · have b3 : decide (e < mx) = false := decide_eq_false f2
                          have E := Aside0.mk (hfr.trans b3)
                          clear hfr
                          go_wp2
                          go_meet
                          exact ⟨congrArg Value.bool E.out.symm, rfl⟩
                  case rest =>
                    obtain ⟨rfl, hwc⟩ := hcut
                    subst wc
                    go_upto_if 67 with fail
                    go_cut [11, 12] (fun s11 s12 wc => s12 = .int .i64 e1 ∧ Aside0 (Kd.S kHa 36 wc w3.heap.size (fun k => k ≠ hb) s11 (out1 ++ [c])) ∧ Aside0 (Below w3.heap.size w3 wc) ∧ Aside0 (wc.heap[hb]? = some (.cells #[.int .i64 h.f0, .slice Ah1 h.f1.length ch1, .slice Ah2 h.f2.length ch2] 36 (0, 0))))
                    case first =>
                      have hst := HST.out
                      unfold widen.start at hst
                      cases hf : widen.fresh a2 e i h with
                      | true =>
                        rw [hf, if_pos rfl, ← HMX.out] at hst
                        obtain ⟨rfl, h_⟩ := Prod.mk.inj (Option.some.inj hst)
                        obtain ⟨rfl, rfl⟩ := Prod.mk.inj h_
                        clear hst h_ hf
                        obtain ⟨xs, hxs⟩ : ∃ xs, xs = out ++ cur.toList := ⟨_, rfl⟩
                        rw [← hxs] at HS
                        have HXL := Aside0.mk (show xs.length ≤ 1000000 by rw [hxs, List.length_append]; have := HO.out.1; omega)
                        have HXS := Aside0.mk hxs
                        clear hxs
                        obtain ⟨A11, c11, rfl⟩ := Kd.S_slice HS.out
                        have hown : (some hb : Option Nat) ≠ (Value.slice A11 xs.length c11).ownBlock := fun he => (Kd.S_R HS.out).1 hb he.symm rfl
                        have HOW := Aside0.mk hown
                        clear hown
                        go_wp2_with (at_builtin; refine Kd.S_append kHa (w0 := w3) w3.heap.size rfl (.tmp 68) (.tmp 71) 25 36 (.agg #[.int .i64 0, .slice none 0 0, .slice none 0 0]) 56 rfl Tryd.underlying25 infoHa rfl (by decide) (by omega) (.slice A11 xs.length c11) xs ⟨mx, [], []⟩ [.int .i64 mx, .slice none 0 0, .slice none 0 0] (fun k => k ≠ hb) (fun _ => False) rfl rfl (kHa_mkM ⟨mx, [], []⟩ (fun _ => True) (Kd.R_nil _ _ _ _ _) (Kd.R_nil _ _ _ _ _)) (fun _ h => h.elim) (fun k hk => by have := BKL.out; omega) (Kd.S_mono HS.out (fun k hk => ⟨hk, fun h => h⟩)) HBL.out (Below.size HBL.out) (by have := HXL.out; omega) ?_; intro v8' w5 hs5 hb5 hg5 hat5; have HS5 := Aside0.mk hs5; have HB5 := Aside0.mk hb5; have BK5 := Aside0.mk (blk_grown BK.out hg5 HOW.out); clear hs5 hb5 hg5 hat5)
                        go_meet
                        exact ⟨rfl, ⟨by rw [← HXS.out]; exact HS5.out⟩, HB5, BK5⟩
                      | false =>
                        rw [hf, if_neg Bool.false_ne_true] at hst
                        cases cur with
                        | none => cases hst
                        | some y =>
                          obtain ⟨rfl, h_⟩ := Prod.mk.inj (Option.some.inj hst)
                          obtain ⟨rfl, rfl⟩ := Prod.mk.inj h_
                          clear hst h_ hf
                          go_wp2
                          go_meet
                          exact ⟨rfl, HS, HBL, BK⟩
                    case rest =>
                      obtain ⟨rfl, HS', HBL', BK'⟩ := hcut
                      clear HS HBL BK BKL
                      have HS := HS'
                      have HBL := HBL'
                      have BK := BK'
                      clear HS' HBL' BK'
                      obtain ⟨W, rfl⟩ : ∃ W, W = wc := ⟨_, rfl⟩
                      have BKL := Aside0.mk (blk_lt BK.out)
                      obtain ⟨g, cap, e8, hbg, hlg, _⟩ := Kd.S_form HS.out (by simp)
                      subst e8
                      have HGB := Aside0.mk (show g ≠ hb from (Kd.S_R HS.out).1 g (by simp [Value.ownBlock]))
                      have HBG := Aside0.mk hbg
                      have el : (out1 ++ [c]).length = out1.length + 1 := by simp
                      rw [el] at HS
                      simp only [el]
                      clear el hbg hlg
                      have O1l : out1.length ≤ i := by
                        have h_ := HST.out
                        have h2_ := HO.out.1
                        unfold widen.start at h_
                        split at h_
                        · have h3_ := (Prod.mk.inj (Prod.mk.inj (Option.some.inj h_)).2).1
                          rw [← h3_, List.length_append]
                          exact h2_
                        · cases cur with
                          | none => cases h_
                          | some y =>
                            have h3_ := (Prod.mk.inj (Prod.mk.inj (Option.some.inj h_)).2).1
                            rw [← h3_]
                            omega
                      have O4l : out1.length ≤ 1000000 := by omega
                      have hgr := HGR.out
                      unfold widen.grow at hgr
                      split at hgr
                      case isFalse => cases hgr
                      rename_i hq
                      have HCG := Aside0.mk (Option.some.inj hgr)
                      have G0 := Aside0.mk (show 0 ≤ e1 ∧ e1 ≤ h.f0 ∧ h.f0 ≤ (l0.length : Int) from ⟨hq.1, hq.2.1, d1⟩)
                      have LN := Aside0.mk (show c.f1.length ≤ 10000000 ∧ h.f1.length ≤ 1000000 ∧ h.f2.length ≤ 1000000 ∧ l0.length ≤ 1000000 from ⟨hq.2.2.1, d2, d3, hL0⟩)
                      have LN2 := Aside0.mk (show c.f2.length ≤ 10000000 ∧ h.f1.length ≤ 1000000 ∧ h.f2.length ≤ 1000000 ∧ l0.length ≤ 1000000 from ⟨hq.2.2.2, d2, d3, hL0⟩)
                      have j0 : (0 : Int) ≤ (out1.length : Int) := by omega
                      have j1 : (out1.length : Int) < (out1.length : Int) + 1 := by omega
                      clear hgr hq
                      go_upto_region 21 with fail
                      have HBD := Aside0.mk (Below.trans HBL.out (below_drew (Below.refl _ _)))
                      have HSZ := Aside0.mk (show w3.heap.size ≤ W.drew.heap.size from (by have h_ := Below.size HBL.out; exact h_))
                      obtain ⟨v1, okr, hc8, hf8, hokr, hok9, hr9, hput⟩ := widen.lend1 (Kd.S_drew HS.out) (fun k hk => by have := BKL.out; have h_ : W.heap.size ≤ k := hk; omega)
                      obtain ⟨A9, c9, rfl⟩ := Kd.R_slice hr9
                      obtain ⟨i0_, hi0_, _, hsz_, _⟩ := info_parts info9
                      obtain ⟨Ac, hcut, hAc, hCc⟩ := print_mid_of (P := Tryd.prog) Value.string (⟨#[]⟩ : ByteArray) 22 9 .i64 .i64 Tryd.underlying22 hi0_ hsz_ A0 c0 l0 e1 h.f0 G0.out.1 G0.out.2.1 G0.out.2.2 HC0.out
                      obtain ⟨cutl, hcutl⟩ : ∃ cutl, cutl = (l0.take (h.f0).toNat).drop (e1).toNat := ⟨_, rfl⟩
                      rw [← hcutl] at hcut hAc hCc
                      have CR := Aside0.mk (Kd.C_of_reads (h1 := fun _ => rfl) (hAc _ (Kd.reads_of_C (Kd.C_below HR0.out HBD.out))))
                      have CL := Aside0.mk (show cutl.length ≤ l0.length by rw [hcutl]; simp only [List.length_drop, List.length_take]; omega)
                      have HCL := Aside0.mk hcutl
                      have C8 := Aside0.mk hc8
                      have HOKR := Aside0.mk hokr
                      have HOK9 := Aside0.mk hok9
                      have HR9 := Aside0.mk hr9
                      have HPUT := Aside0.mk hput
                      clear hc8 hf8 hokr hok9 hr9 hput hAc hCc hi0_ hsz_ hcutl
                      refine start_ (n := 17) (S := fun w' => w'.cell? ⟨g, out1.length * 3 + 1, none⟩ = some (.slice A9 c.f1.length c9) ∧ w'.cell? ⟨hb, 0, none⟩ = some (.int .i64 h.f0) ∧ w'.cell? ⟨hb, 1, none⟩ = some (.slice Ah1 h.f1.length ch1)) (ds := [13, 16]) #[false, false, false, false, false, false, false, false, false, false, false, false, false, false, false, false, false] (by kernel_rfl) rfl rfl ⟨C8.out, ((blk_cell (blk_drew BK.out) 0).trans rfl), ((blk_cell (blk_drew BK.out) 1).trans rfl)⟩ (fun hHeld => ?_)
                      refine pure_ (i := 0) (N := some 79) (v := ?_) (a' := ?_) #[true, false, false, false, false, false, false, false, false, false, false, false, false, false, false, false, false] rfl rfl (by kernel_rfl) (fun _ _ _ h => h) (Or.inl ⟨by rfl, ?_⟩) ?_ ?_
                      rotate_left
                      · intro w'
                        go_simp
                        with_reducible rfl
                      rotate_left
                      · simp only [Act.put, List.setIfInBounds_toArray, List.set_cons_zero, List.set_cons_succ, i64_w, i32_w]
                        rfl
                      refine pure_ (i := 1) (N := some 80) (v := ?_) (a' := ?_) #[true, true, false, false, false, false, false, false, false, false, false, false, false, false, false, false, false] rfl rfl (by kernel_rfl) (fun _ _ _ h => h) (Or.inl ⟨by rfl, ?_⟩) ?_ ?_
                      rotate_left
                      · intro w'
                        go_simp
                        with_reducible rfl
                      rotate_left
                      · simp only [Act.put, List.setIfInBounds_toArray, List.set_cons_zero, List.set_cons_succ, i64_w, i32_w]
                        rfl
                      refine pure_ (i := 2) (N := some 81) (v := ?_) (a' := ?_) #[true, true, true, false, false, false, false, false, false, false, false, false, false, false, false, false, false] rfl rfl (by kernel_rfl) (fun _ _ _ h => h) (Or.inl ⟨by rfl, ?_⟩) ?_ ?_
                      rotate_left
                      · intro w'
                        go_simp
                        with_reducible rfl
                      rotate_left
                      · simp only [Act.put, List.setIfInBounds_toArray, List.set_cons_zero, List.set_cons_succ, i64_w, i32_w]
                        rfl
                      refine pure_ (i := 3) (N := some 82) (v := ?_) (a' := ?_) #[true, true, true, true, false, false, false, false, false, false, false, false, false, false, false, false, false] rfl rfl (by kernel_rfl) (fun _ _ _ h => h) (Or.inl ⟨by rfl, ?_⟩) ?_ ?_
                      rotate_left
                      · intro w'
                        go_simp
                        with_reducible rfl
                      rotate_left
                      · simp only [Act.put, List.setIfInBounds_toArray, List.set_cons_zero, List.set_cons_succ, i64_w, i32_w]
                        rfl
                      refine pure_ (i := 5) (N := some 84) (v := ?_) (a' := ?_) #[true, true, true, true, false, true, false, false, false, false, false, false, false, false, false, false, false] rfl rfl (by kernel_rfl) (fun _ _ _ h => h) (Or.inl ⟨by rfl, ?_⟩) ?_ ?_
                      rotate_left
                      · intro w'
                        go_simp
                        with_reducible rfl
                      rotate_left
                      · simp only [Act.put, List.setIfInBounds_toArray, List.set_cons_zero, List.set_cons_succ, i64_w, i32_w]
                        rfl
                      refine pure_ (i := 6) (N := some 85) (v := ?_) (a' := ?_) #[true, true, true, true, false, true, true, false, false, false, false, false, false, false, false, false, false] rfl rfl (by kernel_rfl) (fun _ _ _ h => h) (Or.inl ⟨by rfl, ?_⟩) ?_ ?_
                      rotate_left
                      · intro w'
                        go_simp
                        with_reducible rfl
                      rotate_left
                      · simp only [Act.put, List.setIfInBounds_toArray, List.set_cons_zero, List.set_cons_succ, i64_w, i32_w]
                        rfl
                      refine pure_ (i := 7) (N := some 86) (v := ?_) (a' := ?_) #[true, true, true, true, false, true, true, true, false, false, false, false, false, false, false, false, false] rfl rfl (by kernel_rfl) (fun _ _ _ h => h) (Or.inl ⟨by rfl, ?_⟩) ?_ ?_
                      rotate_left
                      · intro w'
                        go_simp
                        with_reducible rfl
                      rotate_left
                      · simp only [Act.put, List.setIfInBounds_toArray, List.set_cons_zero, List.set_cons_succ, i64_w, i32_w]
                        rfl
                      refine pure_ (i := 11) (N := some 90) (v := ?_) (a' := ?_) #[true, true, true, true, false, true, true, true, false, false, false, true, false, false, false, false, false] rfl rfl (by kernel_rfl) (fun _ _ _ h => h) (Or.inl ⟨by rfl, ?_⟩) ?_ ?_
                      rotate_left
                      · intro w'
                        go_simp
                        with_reducible rfl
                      rotate_left
                      · simp only [Act.put, List.setIfInBounds_toArray, List.set_cons_zero, List.set_cons_succ, i64_w, i32_w]
                        rfl
                      refine take_ (i := 4) (N := some 83) (v := ?_) (a' := ?_) #[true, true, true, true, true, true, true, true, false, false, false, true, false, false, false, false, false] rfl rfl (by kernel_rfl) (fun _ _ _ h => h) (Or.inl ⟨by rfl, ?_⟩) hHeld ?_ ?_
                      rotate_left
                      · rintro w' ⟨s0, s1, s2⟩
                        go_simp
                        with_reducible rfl
                      rotate_left
                      · simp only [Act.put, List.setIfInBounds_toArray, List.set_cons_zero, List.set_cons_succ, i64_w, i32_w]
                        rfl
                      refine take_ (i := 8) (N := some 87) (v := ?_) (a' := ?_) #[true, true, true, true, true, true, true, true, true, false, false, true, false, false, false, false, false] rfl rfl (by kernel_rfl) (fun _ _ _ h => h) (Or.inl ⟨by rfl, ?_⟩) hHeld ?_ ?_
                      rotate_left
                      · rintro w' ⟨s0, s1, s2⟩
                        go_simp
                        with_reducible rfl
                      rotate_left
                      · simp only [Act.put, List.setIfInBounds_toArray, List.set_cons_zero, List.set_cons_succ, i64_w, i32_w]
                        rfl
                      refine pure_ (i := 9) (N := some 88) (v := ?_) (a' := ?_) #[true, true, true, true, true, true, true, true, true, true, false, true, false, false, false, false, false] rfl rfl (by kernel_rfl) (fun _ _ _ h => h) (Or.inl ⟨by rfl, ?_⟩) ?_ ?_
                      rotate_left
                      · intro w'
                        go_simp
                        with_reducible rfl
                      rotate_left
                      · simp only [Act.put, List.setIfInBounds_toArray, List.set_cons_zero, List.set_cons_succ, i64_w, i32_w]
                        rfl
                      refine take_ (i := 12) (N := some 91) (v := ?_) (a' := ?_) #[true, true, true, true, true, true, true, true, true, true, false, true, true, false, false, false, false] rfl rfl (by kernel_rfl) (fun _ _ _ h => h) (Or.inl ⟨by rfl, ?_⟩) hHeld ?_ ?_
                      rotate_left
                      · rintro w' ⟨s0, s1, s2⟩
                        go_simp
                        with_reducible rfl
                      rotate_left
                      · simp only [Act.put, List.setIfInBounds_toArray, List.set_cons_zero, List.set_cons_succ, i64_w, i32_w]
                        rfl
                      refine one_ (i := 10) (N := some 89) #[true, true, true, true, true, true, true, true, true, true, true, true, true, false, false, false, false] rfl rfl (by kernel_rfl) (by decide) (fun K hK => ?_)
                      refine Kd.R_append_rows_step Kd.string (w0 := w3) w3.heap.size (by rfl) (.tmp 83) (.tmp 88) 22 9 (.string ⟨#[]⟩) 16 (by rfl) Tryd.underlying22 info9 rfl (by decide) (by omega) (.slice A9 c.f1.length c9) c.f1 cutl Ac cutl.length _ okr (fun _ => False) (by rfl) (by rfl) HR9.out CR.out (fun _ _ h => h) (fun _ h_ => h_.elim) HOKR.out HBD.out HSZ.out (by have := CL.out; have := LN.out; omega) ?_
                      intro v5 w5 hr5 hb5 hg5 hat5
                      have HR5 := Aside0.mk hr5
                      have HB5 := Aside0.mk hb5
                      have HG5 := Aside0.mk hg5
                      have HA5 := Aside0.mk hat5
                      have hne5 : (some hb : Option Nat) ≠ (Value.slice A9 c.f1.length c9).ownBlock := fun he => (HOK9.out hb (HR9.out.1 hb he.symm)).1 rfl
                      have hng5 : (some g : Option Nat) ≠ (Value.slice A9 c.f1.length c9).ownBlock := fun he => (HOK9.out g (HR9.out.1 g he.symm)).2 rfl
                      have BK5 := Aside0.mk (blk_grown (blk_drew BK.out) hg5 hne5)
                      have C85 := Aside0.mk (cell_grown hg5 C8.out hng5)
                      obtain ⟨A5, c5, rfl⟩ := Kd.R_slice hr5
                      clear hr5 hb5 hg5 hat5 hne5 hng5
                      refine hK.out _ _ ⟨C85.out, ((blk_cell BK5.out 0).trans rfl), ((blk_cell BK5.out 1).trans rfl)⟩ (fun hHeld => ?_)
                      clear hK K
                      refine norm_ (a' := ?_) ?_ ?_
                      rotate_left
                      · show Act.put _ (some 89) _ = _
                        simp only [Act.put, List.setIfInBounds_toArray, List.set_cons_zero, List.set_cons_succ, i64_w, i32_w]
                        rfl
                      refine last_ (i := 13) (N := some 92) #[true, true, true, true, true, true, true, true, true, true, true, true, true, true, false, false, false] rfl rfl (by kernel_rfl) (by decide) (fun K hK => ?_)
                      refine Kd.R_append_rows_step Kd.string (w0 := w3) w3.heap.size (by rfl) (.tmp 89) (.tmp 91) 22 9 (.string ⟨#[]⟩) 16 (by rfl) Tryd.underlying22 info9 rfl (by decide) (by omega) (.slice A5 (c.f1 ++ cutl).length c5) (c.f1 ++ cutl) h.f1 Ah1 h.f1.length _ okr (fun _ => False) (by rfl) (by rfl) HR5.out (Kd.C_below CH1.out HB5.out) (fun _ _ h => h) (fun _ h_ => h_.elim) (fun k hk => HOKR.out k (Nat.le_trans HG5.out.size hk)) HB5.out (Nat.le_trans HSZ.out HG5.out.size) (by rw [List.length_append]; have := CL.out; have := LN.out; omega) ?_
                      intro v6 w6 hr6 hb6 hg6 hat6
                      have HB6 := Aside0.mk hb6
                      have HG6 := Aside0.mk (widen.grown2 HG5.out hg6 HA5.out)
                      have BK6 := Aside0.mk (widen.far6 BK5.out hg6 HA5.out (fun he => (HOK9.out hb (HR9.out.1 hb he)).1 rfl) BKL.out)
                      have hp9 := HPUT.out w6 v6 _ HG6.out hr6
                      have HP9 := Aside0.mk hp9.2.2.1
                      have hc9 := hp9.1
                      have hf9 := hp9.2.1
                      obtain ⟨Av9, cv9, rfl⟩ := Kd.R_slice hr6
                      clear hr6 hb6 hg6 hat6 hp9
                      refine hK.out _ _ ?_
                      clear hK K
                      refine norm_ (a' := ?_) ?_ ?_
                      rotate_left
                      · show Act.put _ (some 92) _ = _
                        simp only [Act.put, List.setIfInBounds_toArray, List.set_cons_zero, List.set_cons_succ, i64_w, i32_w]
                        rfl
                      refine pure_ (i := 14) (N := some 93) (v := ?_) (a' := ?_) #[true, true, true, true, true, true, true, true, true, true, true, true, true, true, true, false, false] rfl rfl (by kernel_rfl) (fun _ _ _ h => h) (Or.inl ⟨by rfl, ?_⟩) ?_ ?_
                      rotate_left
                      · intro w'
                        go_simp
                        with_reducible rfl
                      rotate_left
                      · simp only [Act.put, List.setIfInBounds_toArray, List.set_cons_zero, List.set_cons_succ, i64_w, i32_w]
                        rfl
                      refine pure_ (i := 15) (N := some 94) (v := ?_) (a' := ?_) #[true, true, true, true, true, true, true, true, true, true, true, true, true, true, true, true, false] rfl rfl (by kernel_rfl) (fun _ _ _ h => h) (Or.inl ⟨by rfl, ?_⟩) ?_ ?_
                      rotate_left
                      · intro w'
                        go_simp
                        with_reducible rfl
                      rotate_left
                      · simp only [Act.put, List.setIfInBounds_toArray, List.set_cons_zero, List.set_cons_succ, i64_w, i32_w]
                        rfl
                      refine last_ (i := 16) (N := none) #[true, true, true, true, true, true, true, true, true, true, true, true, true, true, true, true, true] rfl rfl (by kernel_rfl) (by decide) (fun K hK => ?_)
                      refine skip_ (w1 := ?_) (by rfl) rfl ?_ ?_
                      rotate_left
                      · go_simp
                        rfl
                      refine hK.out _ _ ?_
                      clear hK K
                      refine done_ (by kernel_rfl) ?_
                      obtain ⟨W1, hW'⟩ : ∃ W', W' = w6.setCell ⟨g, out1.length * 3 + 1, none⟩ (.slice Av9 (c.f1.length + (cutl.length + h.f1.length)) cv9) := ⟨_, rfl⟩
                      rw [← hW']
                      have HP := HP9.out
                      rw [show (c.f1 ++ cutl ++ h.f1).length = c.f1.length + (cutl.length + h.f1.length) by simp only [List.length_append]; omega, ← hW'] at HP
                      obtain ⟨c1, hc'⟩ : ∃ c' : S36, c' = ⟨c.f0, c.f1 ++ cutl ++ h.f1, c.f2⟩ := ⟨_, rfl⟩
                      rw [← hc'] at HP
                      have HCc1 := Aside0.mk (show c1 = ⟨c.f0, c.f1 ++ widen.cut l0 e1 h.f0 ++ h.f1, c.f2⟩ by rw [hc', HCL.out]; rfl)
                      clear HS HBL BK
                      have HS := Aside0.mk HP
                      have HBL := Aside0.mk (show Below w3.heap.size w3 W1 by rw [hW']; exact HB6.out.setCell (p := ⟨g, out1.length * 3 + 1, none⟩) (by exact HBG.out) _)
                      have BK := Aside0.mk (show W1.heap[hb]? = some (.cells #[.int .i64 h.f0, .slice Ah1 h.f1.length ch1, .slice Ah2 h.f2.length ch2] 36 (0, 0)) by rw [hW']; exact blk_far BK6.out (fun he => HGB.out he.symm) _)
                      clear BKL
                      have BKL := Aside0.mk (blk_lt BK.out)
                      clear HP HP9 hW' hc' HCL CR C8 HR9 HOKR HOK9 HPUT hc9 hf9 hcut HBD HSZ CL LN HB5 BK5 HR5 HG5 HA5 HB6 HG6 BK6 C85
                      have LN := Aside0.mk (show c1.f2.length ≤ 10000000 ∧ h.f1.length ≤ 1000000 ∧ h.f2.length ≤ 1000000 ∧ l0.length ≤ 1000000 by rw [HCc1.out]; exact LN2.out)
                      go_upto_region 22 with fail
                      have HBD := Aside0.mk (Below.trans HBL.out (below_drew (Below.refl _ _)))
                      have HSZ := Aside0.mk (show w3.heap.size ≤ W1.drew.heap.size from (by have h_ := Below.size HBL.out; exact h_))
                      obtain ⟨v1, okr, hc8, hf8, hokr, hok9, hr9, hput⟩ := widen.lend2 (Kd.S_drew HS.out) (fun k hk => by have := BKL.out; have h_ : W1.heap.size ≤ k := hk; omega)
                      obtain ⟨A9, c9, rfl⟩ := Kd.R_slice hr9
                      obtain ⟨i0_, hi0_, _, hsz_, _⟩ := info_parts info9
                      obtain ⟨Ac, hcut, hAc, hCc⟩ := print_mid_of (P := Tryd.prog) Value.string (⟨#[]⟩ : ByteArray) 22 9 .i64 .i64 Tryd.underlying22 hi0_ hsz_ A0 c0 l0 e1 h.f0 G0.out.1 G0.out.2.1 G0.out.2.2 HC0.out
                      obtain ⟨cutl, hcutl⟩ : ∃ cutl, cutl = (l0.take (h.f0).toNat).drop (e1).toNat := ⟨_, rfl⟩
                      rw [← hcutl] at hcut hAc hCc
                      have CR := Aside0.mk (Kd.C_of_reads (h1 := fun _ => rfl) (hAc _ (Kd.reads_of_C (Kd.C_below HR0.out HBD.out))))
                      have CL := Aside0.mk (show cutl.length ≤ l0.length by rw [hcutl]; simp only [List.length_drop, List.length_take]; omega)
                      have HCL := Aside0.mk hcutl
                      have C8 := Aside0.mk hc8
                      have HOKR := Aside0.mk hokr
                      have HOK9 := Aside0.mk hok9
                      have HR9 := Aside0.mk hr9
                      have HPUT := Aside0.mk hput
                      clear hc8 hf8 hokr hok9 hr9 hput hAc hCc hi0_ hsz_ hcutl
                      refine start_ (n := 17) (S := fun w' => w'.cell? ⟨g, out1.length * 3 + 2, none⟩ = some (.slice A9 c1.f2.length c9) ∧ w'.cell? ⟨hb, 0, none⟩ = some (.int .i64 h.f0) ∧ w'.cell? ⟨hb, 2, none⟩ = some (.slice Ah2 h.f2.length ch2)) (ds := [13, 16]) #[false, false, false, false, false, false, false, false, false, false, false, false, false, false, false, false, false] (by kernel_rfl) rfl rfl ⟨C8.out, ((blk_cell (blk_drew BK.out) 0).trans rfl), ((blk_cell (blk_drew BK.out) 2).trans rfl)⟩ (fun hHeld => ?_)
                      refine pure_ (i := 0) (N := some 95) (v := ?_) (a' := ?_) #[true, false, false, false, false, false, false, false, false, false, false, false, false, false, false, false, false] rfl rfl (by kernel_rfl) (fun _ _ _ h => h) (Or.inl ⟨by rfl, ?_⟩) ?_ ?_
                      rotate_left
                      · intro w'
                        go_simp
                        with_reducible rfl
                      rotate_left
                      · simp only [Act.put, List.setIfInBounds_toArray, List.set_cons_zero, List.set_cons_succ, i64_w, i32_w]
                        rfl
                      refine pure_ (i := 1) (N := some 96) (v := ?_) (a' := ?_) #[true, true, false, false, false, false, false, false, false, false, false, false, false, false, false, false, false] rfl rfl (by kernel_rfl) (fun _ _ _ h => h) (Or.inl ⟨by rfl, ?_⟩) ?_ ?_
                      rotate_left
                      · intro w'
                        go_simp
                        with_reducible rfl
                      rotate_left
                      · simp only [Act.put, List.setIfInBounds_toArray, List.set_cons_zero, List.set_cons_succ, i64_w, i32_w]
                        rfl
                      refine pure_ (i := 2) (N := some 97) (v := ?_) (a' := ?_) #[true, true, true, false, false, false, false, false, false, false, false, false, false, false, false, false, false] rfl rfl (by kernel_rfl) (fun _ _ _ h => h) (Or.inl ⟨by rfl, ?_⟩) ?_ ?_
                      rotate_left
                      · intro w'
                        go_simp
                        with_reducible rfl
                      rotate_left
                      · simp only [Act.put, List.setIfInBounds_toArray, List.set_cons_zero, List.set_cons_succ, i64_w, i32_w]
                        rfl
                      refine pure_ (i := 3) (N := some 98) (v := ?_) (a' := ?_) #[true, true, true, true, false, false, false, false, false, false, false, false, false, false, false, false, false] rfl rfl (by kernel_rfl) (fun _ _ _ h => h) (Or.inl ⟨by rfl, ?_⟩) ?_ ?_
                      rotate_left
                      · intro w'
                        go_simp
                        with_reducible rfl
                      rotate_left
                      · simp only [Act.put, List.setIfInBounds_toArray, List.set_cons_zero, List.set_cons_succ, i64_w, i32_w]
                        rfl
                      refine pure_ (i := 5) (N := some 100) (v := ?_) (a' := ?_) #[true, true, true, true, false, true, false, false, false, false, false, false, false, false, false, false, false] rfl rfl (by kernel_rfl) (fun _ _ _ h => h) (Or.inl ⟨by rfl, ?_⟩) ?_ ?_
                      rotate_left
                      · intro w'
                        go_simp
                        with_reducible rfl
                      rotate_left
                      · simp only [Act.put, List.setIfInBounds_toArray, List.set_cons_zero, List.set_cons_succ, i64_w, i32_w]
                        rfl
                      refine pure_ (i := 6) (N := some 101) (v := ?_) (a' := ?_) #[true, true, true, true, false, true, true, false, false, false, false, false, false, false, false, false, false] rfl rfl (by kernel_rfl) (fun _ _ _ h => h) (Or.inl ⟨by rfl, ?_⟩) ?_ ?_
                      rotate_left
                      · intro w'
                        go_simp
                        with_reducible rfl
                      rotate_left
                      · simp only [Act.put, List.setIfInBounds_toArray, List.set_cons_zero, List.set_cons_succ, i64_w, i32_w]
                        rfl
                      refine pure_ (i := 7) (N := some 102) (v := ?_) (a' := ?_) #[true, true, true, true, false, true, true, true, false, false, false, false, false, false, false, false, false] rfl rfl (by kernel_rfl) (fun _ _ _ h => h) (Or.inl ⟨by rfl, ?_⟩) ?_ ?_
                      rotate_left
                      · intro w'
                        go_simp
                        with_reducible rfl
                      rotate_left
                      · simp only [Act.put, List.setIfInBounds_toArray, List.set_cons_zero, List.set_cons_succ, i64_w, i32_w]
                        rfl
                      refine pure_ (i := 11) (N := some 106) (v := ?_) (a' := ?_) #[true, true, true, true, false, true, true, true, false, false, false, true, false, false, false, false, false] rfl rfl (by kernel_rfl) (fun _ _ _ h => h) (Or.inl ⟨by rfl, ?_⟩) ?_ ?_
                      rotate_left
                      · intro w'
                        go_simp
                        with_reducible rfl
                      rotate_left
                      · simp only [Act.put, List.setIfInBounds_toArray, List.set_cons_zero, List.set_cons_succ, i64_w, i32_w]
                        rfl
                      refine take_ (i := 4) (N := some 99) (v := ?_) (a' := ?_) #[true, true, true, true, true, true, true, true, false, false, false, true, false, false, false, false, false] rfl rfl (by kernel_rfl) (fun _ _ _ h => h) (Or.inl ⟨by rfl, ?_⟩) hHeld ?_ ?_
                      rotate_left
                      · rintro w' ⟨s0, s1, s2⟩
                        go_simp
                        with_reducible rfl
                      rotate_left
                      · simp only [Act.put, List.setIfInBounds_toArray, List.set_cons_zero, List.set_cons_succ, i64_w, i32_w]
                        rfl
                      refine take_ (i := 8) (N := some 103) (v := ?_) (a' := ?_) #[true, true, true, true, true, true, true, true, true, false, false, true, false, false, false, false, false] rfl rfl (by kernel_rfl) (fun _ _ _ h => h) (Or.inl ⟨by rfl, ?_⟩) hHeld ?_ ?_
                      rotate_left
                      · rintro w' ⟨s0, s1, s2⟩
                        go_simp
                        with_reducible rfl
                      rotate_left
                      · simp only [Act.put, List.setIfInBounds_toArray, List.set_cons_zero, List.set_cons_succ, i64_w, i32_w]
                        rfl
                      refine pure_ (i := 9) (N := some 104) (v := ?_) (a' := ?_) #[true, true, true, true, true, true, true, true, true, true, false, true, false, false, false, false, false] rfl rfl (by kernel_rfl) (fun _ _ _ h => h) (Or.inl ⟨by rfl, ?_⟩) ?_ ?_
                      rotate_left
                      · intro w'
                        go_simp
                        with_reducible rfl
                      rotate_left
                      · simp only [Act.put, List.setIfInBounds_toArray, List.set_cons_zero, List.set_cons_succ, i64_w, i32_w]
                        rfl
                      refine take_ (i := 12) (N := some 107) (v := ?_) (a' := ?_) #[true, true, true, true, true, true, true, true, true, true, false, true, true, false, false, false, false] rfl rfl (by kernel_rfl) (fun _ _ _ h => h) (Or.inl ⟨by rfl, ?_⟩) hHeld ?_ ?_
                      rotate_left
                      · rintro w' ⟨s0, s1, s2⟩
                        go_simp
                        with_reducible rfl
                      rotate_left
                      · simp only [Act.put, List.setIfInBounds_toArray, List.set_cons_zero, List.set_cons_succ, i64_w, i32_w]
                        rfl
                      refine one_ (i := 10) (N := some 105) #[true, true, true, true, true, true, true, true, true, true, true, true, true, false, false, false, false] rfl rfl (by kernel_rfl) (by decide) (fun K hK => ?_)
                      refine Kd.R_append_rows_step Kd.string (w0 := w3) w3.heap.size (by rfl) (.tmp 99) (.tmp 104) 22 9 (.string ⟨#[]⟩) 16 (by rfl) Tryd.underlying22 info9 rfl (by decide) (by omega) (.slice A9 c1.f2.length c9) c1.f2 cutl Ac cutl.length _ okr (fun _ => False) (by rfl) (by rfl) HR9.out CR.out (fun _ _ h => h) (fun _ h_ => h_.elim) HOKR.out HBD.out HSZ.out (by have := CL.out; have := LN.out; omega) ?_
                      intro v5 w5 hr5 hb5 hg5 hat5
                      have HR5 := Aside0.mk hr5
                      have HB5 := Aside0.mk hb5
                      have HG5 := Aside0.mk hg5
                      have HA5 := Aside0.mk hat5
                      have hne5 : (some hb : Option Nat) ≠ (Value.slice A9 c1.f2.length c9).ownBlock := fun he => (HOK9.out hb (HR9.out.1 hb he.symm)).1 rfl
                      have hng5 : (some g : Option Nat) ≠ (Value.slice A9 c1.f2.length c9).ownBlock := fun he => (HOK9.out g (HR9.out.1 g he.symm)).2 rfl
                      have BK5 := Aside0.mk (blk_grown (blk_drew BK.out) hg5 hne5)
                      have C85 := Aside0.mk (cell_grown hg5 C8.out hng5)
                      obtain ⟨A5, c5, rfl⟩ := Kd.R_slice hr5
                      clear hr5 hb5 hg5 hat5 hne5 hng5
                      refine hK.out _ _ ⟨C85.out, ((blk_cell BK5.out 0).trans rfl), ((blk_cell BK5.out 2).trans rfl)⟩ (fun hHeld => ?_)
                      clear hK K
                      refine norm_ (a' := ?_) ?_ ?_
                      rotate_left
                      · show Act.put _ (some 105) _ = _
                        simp only [Act.put, List.setIfInBounds_toArray, List.set_cons_zero, List.set_cons_succ, i64_w, i32_w]
                        rfl
                      refine last_ (i := 13) (N := some 108) #[true, true, true, true, true, true, true, true, true, true, true, true, true, true, false, false, false] rfl rfl (by kernel_rfl) (by decide) (fun K hK => ?_)
                      refine Kd.R_append_rows_step Kd.string (w0 := w3) w3.heap.size (by rfl) (.tmp 105) (.tmp 107) 22 9 (.string ⟨#[]⟩) 16 (by rfl) Tryd.underlying22 info9 rfl (by decide) (by omega) (.slice A5 (c1.f2 ++ cutl).length c5) (c1.f2 ++ cutl) h.f2 Ah2 h.f2.length _ okr (fun _ => False) (by rfl) (by rfl) HR5.out (Kd.C_below CH2.out HB5.out) (fun _ _ h => h) (fun _ h_ => h_.elim) (fun k hk => HOKR.out k (Nat.le_trans HG5.out.size hk)) HB5.out (Nat.le_trans HSZ.out HG5.out.size) (by rw [List.length_append]; have := CL.out; have := LN.out; omega) ?_
                      intro v6 w6 hr6 hb6 hg6 hat6
                      have HB6 := Aside0.mk hb6
                      have HG6 := Aside0.mk (widen.grown2 HG5.out hg6 HA5.out)
                      have BK6 := Aside0.mk (widen.far6 BK5.out hg6 HA5.out (fun he => (HOK9.out hb (HR9.out.1 hb he)).1 rfl) BKL.out)
                      have hp9 := HPUT.out w6 v6 _ HG6.out hr6
                      have HP9 := Aside0.mk hp9.2.2.1
                      have hc9 := hp9.1
                      have hf9 := hp9.2.1
                      obtain ⟨Av9, cv9, rfl⟩ := Kd.R_slice hr6
                      clear hr6 hb6 hg6 hat6 hp9
                      refine hK.out _ _ ?_
                      clear hK K
                      refine norm_ (a' := ?_) ?_ ?_
                      rotate_left
                      · show Act.put _ (some 108) _ = _
                        simp only [Act.put, List.setIfInBounds_toArray, List.set_cons_zero, List.set_cons_succ, i64_w, i32_w]
                        rfl
                      refine pure_ (i := 14) (N := some 109) (v := ?_) (a' := ?_) #[true, true, true, true, true, true, true, true, true, true, true, true, true, true, true, false, false] rfl rfl (by kernel_rfl) (fun _ _ _ h => h) (Or.inl ⟨by rfl, ?_⟩) ?_ ?_
                      rotate_left
                      · intro w'
                        go_simp
                        with_reducible rfl
                      rotate_left
                      · simp only [Act.put, List.setIfInBounds_toArray, List.set_cons_zero, List.set_cons_succ, i64_w, i32_w]
                        rfl
                      refine pure_ (i := 15) (N := some 110) (v := ?_) (a' := ?_) #[true, true, true, true, true, true, true, true, true, true, true, true, true, true, true, true, false] rfl rfl (by kernel_rfl) (fun _ _ _ h => h) (Or.inl ⟨by rfl, ?_⟩) ?_ ?_
                      rotate_left
                      · intro w'
                        go_simp
                        with_reducible rfl
                      rotate_left
                      · simp only [Act.put, List.setIfInBounds_toArray, List.set_cons_zero, List.set_cons_succ, i64_w, i32_w]
                        rfl
                      refine last_ (i := 16) (N := none) #[true, true, true, true, true, true, true, true, true, true, true, true, true, true, true, true, true] rfl rfl (by kernel_rfl) (by decide) (fun K hK => ?_)
                      refine skip_ (w1 := ?_) (by rfl) rfl ?_ ?_
                      rotate_left
                      · go_simp
                        rfl
                      refine hK.out _ _ ?_
                      clear hK K
                      refine done_ (by kernel_rfl) ?_
                      obtain ⟨W2, hW'⟩ : ∃ W', W' = w6.setCell ⟨g, out1.length * 3 + 2, none⟩ (.slice Av9 (c1.f2.length + (cutl.length + h.f2.length)) cv9) := ⟨_, rfl⟩
                      rw [← hW']
                      have HP := HP9.out
                      rw [show (c1.f2 ++ cutl ++ h.f2).length = c1.f2.length + (cutl.length + h.f2.length) by simp only [List.length_append]; omega, ← hW'] at HP
                      obtain ⟨c2, hc'⟩ : ∃ c' : S36, c' = ⟨c1.f0, c1.f1, c1.f2 ++ cutl ++ h.f2⟩ := ⟨_, rfl⟩
                      rw [← hc'] at HP
                      have HCc2 := Aside0.mk (show c2 = ⟨c1.f0, c1.f1, c1.f2 ++ widen.cut l0 e1 h.f0 ++ h.f2⟩ by rw [hc', HCL.out]; rfl)
                      clear HS HBL BK
                      have HS := Aside0.mk HP
                      have HBL := Aside0.mk (show Below w3.heap.size w3 W2 by rw [hW']; exact HB6.out.setCell (p := ⟨g, out1.length * 3 + 2, none⟩) (by exact HBG.out) _)
                      have BK := Aside0.mk (show W2.heap[hb]? = some (.cells #[.int .i64 h.f0, .slice Ah1 h.f1.length ch1, .slice Ah2 h.f2.length ch2] 36 (0, 0)) by rw [hW']; exact blk_far BK6.out (fun he => HGB.out he.symm) _)
                      clear BKL
                      have BKL := Aside0.mk (blk_lt BK.out)
                      clear HP HP9 hW' hc' HCL CR C8 HR9 HOKR HOK9 HPUT hc9 hf9 hcut HBD HSZ CL LN HB5 BK5 HR5 HG5 HA5 HB6 HG6 BK6 C85
                      have HC2 := Aside0.mk (show c2 = cg by rw [HCc2.out, HCc1.out, ← HCG.out])
                      clear HCc1 HCc2 HCG LN2 G0
                      obtain rfl : c2 = cg := HC2.out
                      clear HC2
                      have htl := HTL.out
                      unfold widen.tail at htl
                      split at htl
                      case isFalse => cases htl
                      rename_i hq
                      have HCT := Aside0.mk (Option.some.inj htl)
                      clear htl
                      obtain ⟨e2, he2⟩ : ∃ e2, e2 = h.f0 + (h.f1.length : Int) := ⟨_, rfl⟩
                      have HE2 := Aside0.mk he2
                      have be0 : 0 ≤ e2 := by omega
                      have be1 : e2 ≤ 2000000 := by omega
                      have hcA := (blk_cell BK.out 0).trans rfl
                      have hcB := (blk_cell BK.out 1).trans rfl
                      rw [← he2] at hq HCT
                      clear he2
                      go_upto_region 23 with fail
                      go_cut [12] (fun s12 wc => s12 = .int .i64 e2 ∧ wc = W2)
                      case first =>
                        go_wp2
                        go_meet
                        exact ⟨congrArg (Value.int .i64) HE2.out.symm, rfl⟩
                      case rest =>
                       obtain ⟨rfl, hwc⟩ := hcut
                       subst wc
                       clear hcA hcB
                       go_upto_region 24 with fail
                       go_cut [17] (fun s17 wc => s17 = .int .i64 (min (l0.length : Int) (e2 + a2)) ∧ wc = W2)
                       case first =>
                        by_cases m0 : e2 + a2 < (l0.length : Int)
                        · go_wp2
                          go_meet
                          exact ⟨congrArg (Value.int .i64) (by omega), rfl⟩
                        · go_wp2
                          go_meet
                          exact ⟨congrArg (Value.int .i64) (by omega), rfl⟩
                       case rest =>
                         obtain ⟨rfl, hwc⟩ := hcut
                         subst wc
                         obtain ⟨z1, hz1⟩ : ∃ z1, z1 = min (l0.length : Int) (e2 + a2) := ⟨_, rfl⟩
                         rw [← hz1]
                         obtain ⟨z, hz⟩ : ∃ z, z = widen.till l0 a2 h t := ⟨_, rfl⟩
                         have HZ := Aside0.mk (show widen.till l0 a2 h t = z from hz.symm)
                         have HZ1 := Aside0.mk hz1
                         rw [← hz] at hq HCT HG HTL
                         clear hz hz1
                         obtain ⟨lt, hlt⟩ : ∃ lt, lt = decide ((i : Int) + 1 < (l1.length : Int)) := ⟨_, rfl⟩
                         have HLT := Aside0.mk hlt
                         clear hlt
                         have HQ := Aside0.mk hq
                         clear hq
                         go_upto_region 25 with fail
                         go_cut [127] (fun s127 wc => s127 = .bool lt ∧ wc = W2)
                         case first =>
                          have hltm := HLT.out.symm
                          go_wp2
                          go_meet
                          exact ⟨rfl, rfl⟩
                         case rest =>
                          obtain ⟨rfl, hwc⟩ := hcut
                          subst wc
                          go_upto_if 127 with fail
                          go_cut [17] (fun s17 wc => s17 = .int .i64 z ∧ wc = W2)
                          case first =>
                            cases t with
                            | nil =>
                              obtain rfl : lt = false := by rw [HLT.out]; exact widen.lt_nil HIT.out
                              obtain rfl : z1 = z := by rw [← HZ.out, HZ1.out, HE2.out]; rfl
                              go_wp2
                              go_meet
                              exact ⟨rfl, rfl⟩
                            | cons x t' =>
                              have hi2 : i + 1 < l1.length := (widen.lt_cons HIT.out).2
                              obtain rfl : lt = true := by rw [HLT.out]; exact (widen.lt_cons HIT.out).1
                              have hx : rd_T36 l1 ((i : Int) + 1) = x := by
                                unfold rd_T36
                                rw [show ((i : Int) + 1).toNat = i + 1 by omega, List.getD_eq_getElem?_getD]
                                have h_ := congrArg List.head? (congrArg List.tail HT.out)
                                rw [List.tail_drop, List.head?_drop] at h_
                                rw [h_]
                                rfl
                              obtain ⟨ad', A1_, c1_, A2_, c2_, e_, hx0, _, _, _, _, _, _⟩ := at_T36 HR1.out ((i : Int) + 1) (by omega) (by omega)
                              obtain rfl : ad = ad' := by injection e_
                              rw [hx] at hx0
                              rw [show ((i : Int) + 1).toNat = i + 1 by omega] at hx0
                              replace hx0 := (HBL.out.cell (World.block_lt_of_cell? _ _ hx0)).trans hx0
                              have q0 : (0 : Int) ≤ (i : Int) + 1 := by omega
                              have q1 : (i : Int) + 1 < (l1.length : Int) := by omega
                              have q2 : ((i : Int) + 1).toNat = i + 1 := by omega
                              have hzx : z = min z1 x.f0 := by rw [← HZ.out, HZ1.out, HE2.out]; rfl
                              clear hx e_
                              by_cases m1 : x.f0 < z1
                              · obtain rfl : z = x.f0 := by omega
                                clear hzx
                                go_wp2
                                go_meet
                                exact ⟨rfl, rfl⟩
                              · obtain rfl : z = z1 := by omega
                                clear hzx
                                go_wp2
                                go_meet
                                exact ⟨rfl, rfl⟩
                          case rest =>
                            obtain ⟨rfl, hwc⟩ := hcut
                            subst wc
                            have G1 := Aside0.mk (show 0 ≤ e2 ∧ e2 ≤ z ∧ z ≤ (l0.length : Int) from ⟨HQ.out.1, HQ.out.2.1, HQ.out.2.2.1⟩)
                            have LN := Aside0.mk (show c2.f1.length ≤ 10000000 ∧ l0.length ≤ 1000000 from ⟨HQ.out.2.2.2.1, hL0⟩)
                            go_upto_region 27 with fail
                            have HBD := Aside0.mk (Below.trans HBL.out (below_drew (Below.refl _ _)))
                            have HSZ := Aside0.mk (show w3.heap.size ≤ W2.drew.heap.size from (by have h_ := Below.size HBL.out; exact h_))
                            obtain ⟨v1, okr, hc8, hf8, hokr, hok9, hr9, hput⟩ := widen.lend1 (Kd.S_drew HS.out) (fun k hk => by have := BKL.out; have h_ : W2.heap.size ≤ k := hk; omega)
                            obtain ⟨A9, c9, rfl⟩ := Kd.R_slice hr9
                            obtain ⟨i0_, hi0_, _, hsz_, _⟩ := info_parts info9
                            obtain ⟨Ac, hcut, hAc, hCc⟩ := print_mid_of (P := Tryd.prog) Value.string (⟨#[]⟩ : ByteArray) 22 9 .i64 .i64 Tryd.underlying22 hi0_ hsz_ A0 c0 l0 e2 z G1.out.1 G1.out.2.1 G1.out.2.2 HC0.out
                            obtain ⟨cutl, hcutl⟩ : ∃ cutl, cutl = (l0.take (z).toNat).drop (e2).toNat := ⟨_, rfl⟩
                            rw [← hcutl] at hcut hAc hCc
                            have CR := Aside0.mk (Kd.C_of_reads (h1 := fun _ => rfl) (hAc _ (Kd.reads_of_C (Kd.C_below HR0.out HBD.out))))
                            have CL := Aside0.mk (show cutl.length ≤ l0.length by rw [hcutl]; simp only [List.length_drop, List.length_take]; omega)
                            have HCL := Aside0.mk hcutl
                            have C8 := Aside0.mk hc8
                            have HOKR := Aside0.mk hokr
                            have HOK9 := Aside0.mk hok9
                            have HR9 := Aside0.mk hr9
                            have HPUT := Aside0.mk hput
                            clear hc8 hf8 hokr hok9 hr9 hput hAc hCc hi0_ hsz_ hcutl
                            refine start_ (n := 13) (S := fun w' => w'.cell? ⟨g, out1.length * 3 + 1, none⟩ = some (.slice A9 c2.f1.length c9)) (ds := [9, 12]) #[false, false, false, false, false, false, false, false, false, false, false, false, false] (by kernel_rfl) rfl rfl (C8.out) (fun hHeld => ?_)
                            refine pure_ (i := 0) (N := some 136) (v := ?_) (a' := ?_) #[true, false, false, false, false, false, false, false, false, false, false, false, false] rfl rfl (by kernel_rfl) (fun _ _ _ h => h) (Or.inl ⟨by rfl, ?_⟩) ?_ ?_
                            rotate_left
                            · intro w'
                              go_simp
                              with_reducible rfl
                            rotate_left
                            · simp only [Act.put, List.setIfInBounds_toArray, List.set_cons_zero, List.set_cons_succ, i64_w, i32_w]
                              rfl
                            refine pure_ (i := 1) (N := some 137) (v := ?_) (a' := ?_) #[true, true, false, false, false, false, false, false, false, false, false, false, false] rfl rfl (by kernel_rfl) (fun _ _ _ h => h) (Or.inl ⟨by rfl, ?_⟩) ?_ ?_
                            rotate_left
                            · intro w'
                              go_simp
                              with_reducible rfl
                            rotate_left
                            · simp only [Act.put, List.setIfInBounds_toArray, List.set_cons_zero, List.set_cons_succ, i64_w, i32_w]
                              rfl
                            refine pure_ (i := 2) (N := some 138) (v := ?_) (a' := ?_) #[true, true, true, false, false, false, false, false, false, false, false, false, false] rfl rfl (by kernel_rfl) (fun _ _ _ h => h) (Or.inl ⟨by rfl, ?_⟩) ?_ ?_
                            rotate_left
                            · intro w'
                              go_simp
                              with_reducible rfl
                            rotate_left
                            · simp only [Act.put, List.setIfInBounds_toArray, List.set_cons_zero, List.set_cons_succ, i64_w, i32_w]
                              rfl
                            refine pure_ (i := 3) (N := some 139) (v := ?_) (a' := ?_) #[true, true, true, true, false, false, false, false, false, false, false, false, false] rfl rfl (by kernel_rfl) (fun _ _ _ h => h) (Or.inl ⟨by rfl, ?_⟩) ?_ ?_
                            rotate_left
                            · intro w'
                              go_simp
                              with_reducible rfl
                            rotate_left
                            · simp only [Act.put, List.setIfInBounds_toArray, List.set_cons_zero, List.set_cons_succ, i64_w, i32_w]
                              rfl
                            refine pure_ (i := 5) (N := some 141) (v := ?_) (a' := ?_) #[true, true, true, true, false, true, false, false, false, false, false, false, false] rfl rfl (by kernel_rfl) (fun _ _ _ h => h) (Or.inl ⟨by rfl, ?_⟩) ?_ ?_
                            rotate_left
                            · intro w'
                              go_simp
                              with_reducible rfl
                            rotate_left
                            · simp only [Act.put, List.setIfInBounds_toArray, List.set_cons_zero, List.set_cons_succ, i64_w, i32_w]
                              rfl
                            refine pure_ (i := 6) (N := some 142) (v := ?_) (a' := ?_) #[true, true, true, true, false, true, true, false, false, false, false, false, false] rfl rfl (by kernel_rfl) (fun _ _ _ h => h) (Or.inl ⟨by rfl, ?_⟩) ?_ ?_
                            rotate_left
                            · intro w'
                              go_simp
                              with_reducible rfl
                            rotate_left
                            · simp only [Act.put, List.setIfInBounds_toArray, List.set_cons_zero, List.set_cons_succ, i64_w, i32_w]
                              rfl
                            refine pure_ (i := 7) (N := some 143) (v := ?_) (a' := ?_) #[true, true, true, true, false, true, true, true, false, false, false, false, false] rfl rfl (by kernel_rfl) (fun _ _ _ h => h) (Or.inl ⟨by rfl, ?_⟩) ?_ ?_
                            rotate_left
                            · intro w'
                              go_simp
                              with_reducible rfl
                            rotate_left
                            · simp only [Act.put, List.setIfInBounds_toArray, List.set_cons_zero, List.set_cons_succ, i64_w, i32_w]
                              rfl
                            refine pure_ (i := 8) (N := some 144) (v := ?_) (a' := ?_) #[true, true, true, true, false, true, true, true, true, false, false, false, false] rfl rfl (by kernel_rfl) (fun _ _ _ h => h) (Or.inl ⟨by rfl, ?_⟩) ?_ ?_
                            rotate_left
                            · intro w'
                              go_simp
                              with_reducible rfl
                            rotate_left
                            · simp only [Act.put, List.setIfInBounds_toArray, List.set_cons_zero, List.set_cons_succ, i64_w, i32_w]
                              rfl
                            refine take_ (i := 4) (N := some 140) (v := ?_) (a' := ?_) #[true, true, true, true, true, true, true, true, true, false, false, false, false] rfl rfl (by kernel_rfl) (fun _ _ _ h => h) (Or.inl ⟨by rfl, ?_⟩) hHeld ?_ ?_
                            rotate_left
                            · intro w' s0
                              go_simp
                              with_reducible rfl
                            rotate_left
                            · simp only [Act.put, List.setIfInBounds_toArray, List.set_cons_zero, List.set_cons_succ, i64_w, i32_w]
                              rfl
                            refine last_ (i := 9) (N := some 145) #[true, true, true, true, true, true, true, true, true, true, false, false, false] rfl rfl (by kernel_rfl) (by decide) (fun K hK => ?_)
                            refine Kd.R_append_rows_step Kd.string (w0 := w3) w3.heap.size (by rfl) (.tmp 140) (.tmp 144) 22 9 (.string ⟨#[]⟩) 16 (by rfl) Tryd.underlying22 info9 rfl (by decide) (by omega) (.slice A9 c2.f1.length c9) c2.f1 cutl Ac cutl.length _ okr (fun _ => False) (by rfl) (by rfl) HR9.out CR.out (fun _ _ h => h) (fun _ h_ => h_.elim) HOKR.out HBD.out HSZ.out (by have := CL.out; have := LN.out; omega) ?_
                            intro v5 w5 hr5 hb5 hg5 hat5
                            have HR5 := Aside0.mk hr5
                            have HB5 := Aside0.mk hb5
                            have HG5 := Aside0.mk hg5
                            have HA5 := Aside0.mk hat5
                            have BK5 := Aside0.mk (blk_grown (blk_drew BK.out) hg5 (fun he => (HOK9.out hb (HR9.out.1 hb he.symm)).1 rfl))
                            have hp9 := HPUT.out w5 v5 _ hg5 hr5
                            have HP9 := Aside0.mk hp9.2.2.1
                            have hc9 := hp9.1
                            have hf9 := hp9.2.1
                            obtain ⟨Av9, cv9, rfl⟩ := Kd.R_slice hr5
                            clear hr5 hb5 hg5 hat5 hp9
                            refine hK.out _ _ ?_
                            clear hK K
                            refine norm_ (a' := ?_) ?_ ?_
                            rotate_left
                            · show Act.put _ (some 145) _ = _
                              simp only [Act.put, List.setIfInBounds_toArray, List.set_cons_zero, List.set_cons_succ, i64_w, i32_w]
                              rfl
                            refine pure_ (i := 10) (N := some 146) (v := ?_) (a' := ?_) #[true, true, true, true, true, true, true, true, true, true, true, false, false] rfl rfl (by kernel_rfl) (fun _ _ _ h => h) (Or.inl ⟨by rfl, ?_⟩) ?_ ?_
                            rotate_left
                            · intro w'
                              go_simp
                              with_reducible rfl
                            rotate_left
                            · simp only [Act.put, List.setIfInBounds_toArray, List.set_cons_zero, List.set_cons_succ, i64_w, i32_w]
                              rfl
                            refine pure_ (i := 11) (N := some 147) (v := ?_) (a' := ?_) #[true, true, true, true, true, true, true, true, true, true, true, true, false] rfl rfl (by kernel_rfl) (fun _ _ _ h => h) (Or.inl ⟨by rfl, ?_⟩) ?_ ?_
                            rotate_left
                            · intro w'
                              go_simp
                              with_reducible rfl
                            rotate_left
                            · simp only [Act.put, List.setIfInBounds_toArray, List.set_cons_zero, List.set_cons_succ, i64_w, i32_w]
                              rfl
                            refine last_ (i := 12) (N := none) #[true, true, true, true, true, true, true, true, true, true, true, true, true] rfl rfl (by kernel_rfl) (by decide) (fun K hK => ?_)
                            refine skip_ (w1 := ?_) (by rfl) rfl ?_ ?_
                            rotate_left
                            · go_simp
                              rfl
                            refine hK.out _ _ ?_
                            clear hK K
                            refine done_ (by kernel_rfl) ?_
                            obtain ⟨W3, hW'⟩ : ∃ W', W' = w5.setCell ⟨g, out1.length * 3 + 1, none⟩ (.slice Av9 (c2.f1.length + cutl.length) cv9) := ⟨_, rfl⟩
                            rw [← hW']
                            have HP := HP9.out
                            rw [show (c2.f1 ++ cutl).length = c2.f1.length + cutl.length by simp only [List.length_append], ← hW'] at HP
                            obtain ⟨c3, hc'⟩ : ∃ c' : S36, c' = ⟨c2.f0, c2.f1 ++ cutl, c2.f2⟩ := ⟨_, rfl⟩
                            rw [← hc'] at HP
                            have HCc3 := Aside0.mk (show c3 = ⟨c2.f0, c2.f1 ++ widen.cut l0 e2 z, c2.f2⟩ by rw [hc', HCL.out]; rfl)
                            clear HS HBL BK
                            have HS := Aside0.mk HP
                            have HBL := Aside0.mk (show Below w3.heap.size w3 W3 by rw [hW']; exact HB5.out.setCell (p := ⟨g, out1.length * 3 + 1, none⟩) (by exact HBG.out) _)
                            have BK := Aside0.mk (show W3.heap[hb]? = some (.cells #[.int .i64 h.f0, .slice Ah1 h.f1.length ch1, .slice Ah2 h.f2.length ch2] 36 (0, 0)) by rw [hW']; exact blk_far BK5.out (fun he => HGB.out he.symm) _)
                            clear BKL
                            have BKL := Aside0.mk (blk_lt BK.out)
                            clear HP HP9 hW' hc' HCL CR C8 HR9 HOKR HOK9 HPUT hc9 hf9 hcut HBD HSZ CL LN HB5 BK5 HR5 HG5 HA5
                            have LN := Aside0.mk (show c3.f2.length ≤ 10000000 ∧ l0.length ≤ 1000000 by rw [HCc3.out]; exact ⟨HQ.out.2.2.2.2, hL0⟩)
                            go_upto_region 28 with fail
                            have HBD := Aside0.mk (Below.trans HBL.out (below_drew (Below.refl _ _)))
                            have HSZ := Aside0.mk (show w3.heap.size ≤ W3.drew.heap.size from (by have h_ := Below.size HBL.out; exact h_))
                            obtain ⟨v1, okr, hc8, hf8, hokr, hok9, hr9, hput⟩ := widen.lend2 (Kd.S_drew HS.out) (fun k hk => by have := BKL.out; have h_ : W3.heap.size ≤ k := hk; omega)
                            obtain ⟨A9, c9, rfl⟩ := Kd.R_slice hr9
                            obtain ⟨i0_, hi0_, _, hsz_, _⟩ := info_parts info9
                            obtain ⟨Ac, hcut, hAc, hCc⟩ := print_mid_of (P := Tryd.prog) Value.string (⟨#[]⟩ : ByteArray) 22 9 .i64 .i64 Tryd.underlying22 hi0_ hsz_ A0 c0 l0 e2 z G1.out.1 G1.out.2.1 G1.out.2.2 HC0.out
                            obtain ⟨cutl, hcutl⟩ : ∃ cutl, cutl = (l0.take (z).toNat).drop (e2).toNat := ⟨_, rfl⟩
                            rw [← hcutl] at hcut hAc hCc
                            have CR := Aside0.mk (Kd.C_of_reads (h1 := fun _ => rfl) (hAc _ (Kd.reads_of_C (Kd.C_below HR0.out HBD.out))))
                            have CL := Aside0.mk (show cutl.length ≤ l0.length by rw [hcutl]; simp only [List.length_drop, List.length_take]; omega)
                            have HCL := Aside0.mk hcutl
                            have C8 := Aside0.mk hc8
                            have HOKR := Aside0.mk hokr
                            have HOK9 := Aside0.mk hok9
                            have HR9 := Aside0.mk hr9
                            have HPUT := Aside0.mk hput
                            clear hc8 hf8 hokr hok9 hr9 hput hAc hCc hi0_ hsz_ hcutl
                            refine start_ (n := 13) (S := fun w' => w'.cell? ⟨g, out1.length * 3 + 2, none⟩ = some (.slice A9 c3.f2.length c9)) (ds := [9, 12]) #[false, false, false, false, false, false, false, false, false, false, false, false, false] (by kernel_rfl) rfl rfl (C8.out) (fun hHeld => ?_)
                            refine pure_ (i := 0) (N := some 148) (v := ?_) (a' := ?_) #[true, false, false, false, false, false, false, false, false, false, false, false, false] rfl rfl (by kernel_rfl) (fun _ _ _ h => h) (Or.inl ⟨by rfl, ?_⟩) ?_ ?_
                            rotate_left
                            · intro w'
                              go_simp
                              with_reducible rfl
                            rotate_left
                            · simp only [Act.put, List.setIfInBounds_toArray, List.set_cons_zero, List.set_cons_succ, i64_w, i32_w]
                              rfl
                            refine pure_ (i := 1) (N := some 149) (v := ?_) (a' := ?_) #[true, true, false, false, false, false, false, false, false, false, false, false, false] rfl rfl (by kernel_rfl) (fun _ _ _ h => h) (Or.inl ⟨by rfl, ?_⟩) ?_ ?_
                            rotate_left
                            · intro w'
                              go_simp
                              with_reducible rfl
                            rotate_left
                            · simp only [Act.put, List.setIfInBounds_toArray, List.set_cons_zero, List.set_cons_succ, i64_w, i32_w]
                              rfl
                            refine pure_ (i := 2) (N := some 150) (v := ?_) (a' := ?_) #[true, true, true, false, false, false, false, false, false, false, false, false, false] rfl rfl (by kernel_rfl) (fun _ _ _ h => h) (Or.inl ⟨by rfl, ?_⟩) ?_ ?_
                            rotate_left
                            · intro w'
                              go_simp
                              with_reducible rfl
                            rotate_left
                            · simp only [Act.put, List.setIfInBounds_toArray, List.set_cons_zero, List.set_cons_succ, i64_w, i32_w]
                              rfl
                            refine pure_ (i := 3) (N := some 151) (v := ?_) (a' := ?_) #[true, true, true, true, false, false, false, false, false, false, false, false, false] rfl rfl (by kernel_rfl) (fun _ _ _ h => h) (Or.inl ⟨by rfl, ?_⟩) ?_ ?_
                            rotate_left
                            · intro w'
                              go_simp
                              with_reducible rfl
                            rotate_left
                            · simp only [Act.put, List.setIfInBounds_toArray, List.set_cons_zero, List.set_cons_succ, i64_w, i32_w]
                              rfl
                            refine pure_ (i := 5) (N := some 153) (v := ?_) (a' := ?_) #[true, true, true, true, false, true, false, false, false, false, false, false, false] rfl rfl (by kernel_rfl) (fun _ _ _ h => h) (Or.inl ⟨by rfl, ?_⟩) ?_ ?_
                            rotate_left
                            · intro w'
                              go_simp
                              with_reducible rfl
                            rotate_left
                            · simp only [Act.put, List.setIfInBounds_toArray, List.set_cons_zero, List.set_cons_succ, i64_w, i32_w]
                              rfl
                            refine pure_ (i := 6) (N := some 154) (v := ?_) (a' := ?_) #[true, true, true, true, false, true, true, false, false, false, false, false, false] rfl rfl (by kernel_rfl) (fun _ _ _ h => h) (Or.inl ⟨by rfl, ?_⟩) ?_ ?_
                            rotate_left
                            · intro w'
                              go_simp
                              with_reducible rfl
                            rotate_left
                            · simp only [Act.put, List.setIfInBounds_toArray, List.set_cons_zero, List.set_cons_succ, i64_w, i32_w]
                              rfl
                            refine pure_ (i := 7) (N := some 155) (v := ?_) (a' := ?_) #[true, true, true, true, false, true, true, true, false, false, false, false, false] rfl rfl (by kernel_rfl) (fun _ _ _ h => h) (Or.inl ⟨by rfl, ?_⟩) ?_ ?_
                            rotate_left
                            · intro w'
                              go_simp
                              with_reducible rfl
                            rotate_left
                            · simp only [Act.put, List.setIfInBounds_toArray, List.set_cons_zero, List.set_cons_succ, i64_w, i32_w]
                              rfl
                            refine pure_ (i := 8) (N := some 156) (v := ?_) (a' := ?_) #[true, true, true, true, false, true, true, true, true, false, false, false, false] rfl rfl (by kernel_rfl) (fun _ _ _ h => h) (Or.inl ⟨by rfl, ?_⟩) ?_ ?_
                            rotate_left
                            · intro w'
                              go_simp
                              with_reducible rfl
                            rotate_left
                            · simp only [Act.put, List.setIfInBounds_toArray, List.set_cons_zero, List.set_cons_succ, i64_w, i32_w]
                              rfl
                            refine take_ (i := 4) (N := some 152) (v := ?_) (a' := ?_) #[true, true, true, true, true, true, true, true, true, false, false, false, false] rfl rfl (by kernel_rfl) (fun _ _ _ h => h) (Or.inl ⟨by rfl, ?_⟩) hHeld ?_ ?_
                            rotate_left
                            · intro w' s0
                              go_simp
                              with_reducible rfl
                            rotate_left
                            · simp only [Act.put, List.setIfInBounds_toArray, List.set_cons_zero, List.set_cons_succ, i64_w, i32_w]
                              rfl
                            refine last_ (i := 9) (N := some 157) #[true, true, true, true, true, true, true, true, true, true, false, false, false] rfl rfl (by kernel_rfl) (by decide) (fun K hK => ?_)
                            refine Kd.R_append_rows_step Kd.string (w0 := w3) w3.heap.size (by rfl) (.tmp 152) (.tmp 156) 22 9 (.string ⟨#[]⟩) 16 (by rfl) Tryd.underlying22 info9 rfl (by decide) (by omega) (.slice A9 c3.f2.length c9) c3.f2 cutl Ac cutl.length _ okr (fun _ => False) (by rfl) (by rfl) HR9.out CR.out (fun _ _ h => h) (fun _ h_ => h_.elim) HOKR.out HBD.out HSZ.out (by have := CL.out; have := LN.out; omega) ?_
                            intro v5 w5 hr5 hb5 hg5 hat5
                            have HR5 := Aside0.mk hr5
                            have HB5 := Aside0.mk hb5
                            have HG5 := Aside0.mk hg5
                            have HA5 := Aside0.mk hat5
                            have BK5 := Aside0.mk (blk_grown (blk_drew BK.out) hg5 (fun he => (HOK9.out hb (HR9.out.1 hb he.symm)).1 rfl))
                            have hp9 := HPUT.out w5 v5 _ hg5 hr5
                            have HP9 := Aside0.mk hp9.2.2.1
                            have hc9 := hp9.1
                            have hf9 := hp9.2.1
                            obtain ⟨Av9, cv9, rfl⟩ := Kd.R_slice hr5
                            clear hr5 hb5 hg5 hat5 hp9
                            refine hK.out _ _ ?_
                            clear hK K
                            refine norm_ (a' := ?_) ?_ ?_
                            rotate_left
                            · show Act.put _ (some 157) _ = _
                              simp only [Act.put, List.setIfInBounds_toArray, List.set_cons_zero, List.set_cons_succ, i64_w, i32_w]
                              rfl
                            refine pure_ (i := 10) (N := some 158) (v := ?_) (a' := ?_) #[true, true, true, true, true, true, true, true, true, true, true, false, false] rfl rfl (by kernel_rfl) (fun _ _ _ h => h) (Or.inl ⟨by rfl, ?_⟩) ?_ ?_
                            rotate_left
                            · intro w'
                              go_simp
                              with_reducible rfl
                            rotate_left
                            · simp only [Act.put, List.setIfInBounds_toArray, List.set_cons_zero, List.set_cons_succ, i64_w, i32_w]
                              rfl
                            refine pure_ (i := 11) (N := some 159) (v := ?_) (a' := ?_) #[true, true, true, true, true, true, true, true, true, true, true, true, false] rfl rfl (by kernel_rfl) (fun _ _ _ h => h) (Or.inl ⟨by rfl, ?_⟩) ?_ ?_
                            rotate_left
                            · intro w'
                              go_simp
                              with_reducible rfl
                            rotate_left
                            · simp only [Act.put, List.setIfInBounds_toArray, List.set_cons_zero, List.set_cons_succ, i64_w, i32_w]
                              rfl
                            refine last_ (i := 12) (N := none) #[true, true, true, true, true, true, true, true, true, true, true, true, true] rfl rfl (by kernel_rfl) (by decide) (fun K hK => ?_)
                            refine skip_ (w1 := ?_) (by rfl) rfl ?_ ?_
                            rotate_left
                            · go_simp
                              rfl
                            refine hK.out _ _ ?_
                            clear hK K
                            refine done_ (by kernel_rfl) ?_
                            obtain ⟨W4, hW'⟩ : ∃ W', W' = w5.setCell ⟨g, out1.length * 3 + 2, none⟩ (.slice Av9 (c3.f2.length + cutl.length) cv9) := ⟨_, rfl⟩
                            rw [← hW']
                            have HP := HP9.out
                            rw [show (c3.f2 ++ cutl).length = c3.f2.length + cutl.length by simp only [List.length_append], ← hW'] at HP
                            obtain ⟨c4, hc'⟩ : ∃ c' : S36, c' = ⟨c3.f0, c3.f1, c3.f2 ++ cutl⟩ := ⟨_, rfl⟩
                            rw [← hc'] at HP
                            have HCc4 := Aside0.mk (show c4 = ⟨c3.f0, c3.f1, c3.f2 ++ widen.cut l0 e2 z⟩ by rw [hc', HCL.out]; rfl)
                            clear HS HBL BK
                            have HS := Aside0.mk HP
                            have HBL := Aside0.mk (show Below w3.heap.size w3 W4 by rw [hW']; exact HB5.out.setCell (p := ⟨g, out1.length * 3 + 2, none⟩) (by exact HBG.out) _)
                            have BK := Aside0.mk (show W4.heap[hb]? = some (.cells #[.int .i64 h.f0, .slice Ah1 h.f1.length ch1, .slice Ah2 h.f2.length ch2] 36 (0, 0)) by rw [hW']; exact blk_far BK5.out (fun he => HGB.out he.symm) _)
                            clear BKL
                            have BKL := Aside0.mk (blk_lt BK.out)
                            clear HP HP9 hW' hc' HCL CR C8 HR9 HOKR HOK9 HPUT hc9 hf9 hcut HBD HSZ CL LN HB5 BK5 HR5 HG5 HA5
                            have HC4 := Aside0.mk (show c4 = ct by rw [HCc4.out, HCc3.out, ← HCT.out])
                            clear HCc3 HCc4 HCT
                            obtain rfl : c4 = ct := HC4.out
                            clear HC4
                            go_wp2
                            go_roundg t.length
                            case measure => rw [← HNQ.out]; exact Nat.lt_succ_self _
                            case rel => exact ⟨i + 1, t, z, out1, some c4, rfl, by have hit := HIT.out; simp only [List.length_cons] at hit; omega, by go_num, rfl, HG, ⟨by have h_ := congrArg List.tail HT.out; rw [List.tail_drop] at h_; exact h_⟩, ⟨⟨Nat.succ_le_succ O1l, fun h_ => absurd h_ (Nat.succ_ne_zero _)⟩⟩, ⟨Kd.S_mono HS.out (fun _ _ => trivial)⟩, HBL⟩
          · cases h
    · rw [if_neg he] at h
      obtain ⟨rfl, rfl⟩ := Prod.mk.inj (Option.some.inj h)
      clear h
      have e1 : (ce == 0) = false := by simpa using he
      have e2 : (ce != 0) = true := by simpa using he
      go_enter Tryd.func8, Tryd.ntmps8
      go_wp2_with (first | (go_at_call 22; (with_reducible refine (lines_Join.calls A0 c0 l0 jb 0 _ HR0.out HC0.out HJ.out).mono ?_); rintro e_ w1 ⟨v18, rfl, hv18, hb1⟩; obtain ⟨A18, c18, rfl⟩ := Kd.V_slice hv18; have HB1 := Aside0.mk hb1; clear hv18 hb1) | (go_at_call 16; (with_reducible refine (hunk_Check.calls k A1 c1 l1 ce _ (Kd.C_below HR1.out HB1.out) HC1.out HCE.out).mono ?_); rintro e_ w2 ⟨rfl, hb2⟩; have HB2 := Aside0.mk (Below.trans HB1.out (Below.mono hb2 (Below.size HB1.out))); clear hb2))
      go_ret2
      exact ⟨_, rfl, Kd.S_nil _ _ _ _ _, HB2.out⟩
  · rw [if_neg he] at h
    obtain ⟨rfl, rfl⟩ := Prod.mk.inj (Option.some.inj h)
    clear h
    have e1 : (je == 0) = false := by simpa using he
    have e2 : (je != 0) = true := by simpa using he
    go_enter Tryd.func8, Tryd.ntmps8
    go_wp2_with (go_at_call 22; (with_reducible refine (lines_Join.calls A0 c0 l0 jb je _ HR0.out HC0.out HJ.out).mono ?_); rintro e_ w1 ⟨v18, rfl, hv18, hb1⟩; obtain ⟨A18, c18, rfl⟩ := Kd.V_slice hv18; have HB1 := Aside0.mk hb1; clear hv18 hb1)
    go_ret2
    exact ⟨_, rfl, Kd.S_nil _ _ _ _ _, HB1.out⟩
end Go.Proofs.YtognfinkolpemaaDoor.Pr
