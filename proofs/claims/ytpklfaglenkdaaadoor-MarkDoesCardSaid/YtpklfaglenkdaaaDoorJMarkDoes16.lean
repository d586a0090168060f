/- Part 16 of the proof of MarkDoes: texts put together. -/
import Derived.Test.YtpklfaglenkdaaaDoorJMarkDoes4
import Derived.Test.YtpklfaglenkdaaaDoorJMarkDoes10
import Derived.Test.YtpklfaglenkdaaaDoorJMarkDoes15
import Derived.StillTailTactics
import Derived.Lib.SliceRun
set_option linter.unusedVariables false
set_option linter.unusedSimpArgs false
section
namespace Go.Proofs.YtpklfaglenkdaaaDoor.Pr
open Go.RowKit Go.Proofs.YtpklfaglenkdaaaDoorW.PrintWords Go.Proofs.YtpklfaglenkdaaaDoorW.PrintLast Go.Proofs.YtpklfaglenkdaaaDoorW.PrintMore
def marky (s : ByteArray) : Bool := decide (0 ≤ markN (bareB s))
def wrB (s : ByteArray) : ByteArray := if marky s = true then (⟨#[92]⟩ : ByteArray) ++ s else s
theorem write_val (s : ByteArray) (h : s.size ≤ 1000000000) : mark_write.f s = some (wrB s) := by
  unfold mark_write.f strings_TrimLeft.f mark_mark.f wrB marky
  rw [if_pos rfl, Option.bind_some, Option.bind_some]
  by_cases c : markN (bareB s) ≥ 0
  · rw [if_pos c, if_pos (by omega), if_pos (decide_eq_true c)]
  · rw [if_neg c, if_neg (by rw [decide_eq_true_eq]; exact c)]
def MW.St (W : World) (gO gM : Nat) (out : List ByteArray) : Prop := ∃ v : Value, W.heap[gO]? = some (.cells #[v] 23 (0, 0)) ∧ W.heap[gM]? = some (.cells #[.string mk0, .string mk1, .string mk2, .string mk3] 52 (0, 0)) ∧
  Kd.R Kd.string 9 W (gM + 1) (fun k => gM < k) v out ∧ gM + 1 ≤ W.heap.size ∧ gO < gM
theorem mw_cell {w : World} {g : Nat} {t : TypeId} {v : Value} (h : w.heap[g]? = some (.cells #[v] t (0, 0))) : w.cell? ⟨g, 0, none⟩ = some v := (blk_cell h 0).trans rfl
theorem mw_frozen {w : World} {g : Nat} {t : TypeId} {v : Value} (h : w.heap[g]? = some (.cells #[v] t (0, 0))) : w.frozen? ⟨g, 0, none⟩ = false := blk_frozen h 0
theorem MW.keep {W W' : World} {gO gM : Nat} {out : List ByteArray} (h : MW.St W gO gM out) (hb : Below W.heap.size W W') : MW.St W' gO gM out := by
  obtain ⟨v, h1, h2, h3, h4, h5⟩ := h
  exact ⟨v, (hb.block _ (blk_lt h1)).trans h1, (hb.block _ (blk_lt h2)).trans h2, Kd.R_below h3 hb, Nat.le_trans h4 (Below.size hb), h5⟩
theorem MW.put {W : World} {gO gM : Nat} {out : List ByteArray} {v u : Value} {m : Array Value} (h1 : W.heap[gO]? = some (.cells #[v] 23 (0, 0))) (h2 : W.heap[gM]? = some (.cells #[.string mk0, .string mk1, .string mk2, .string mk3] 52 (0, 0)))
    (h3 : Kd.R Kd.string 9 W (gM + 1) (fun k => gM < k) u out) (h4 : gM + 1 ≤ W.heap.size) (h5 : gO < gM) : MW.St (W.setCell ⟨gO, 0, none⟩ u) gO gM out :=
  ⟨u, blk_put h1 0 u rfl, (set_other (by omega)).trans h2, Kd.R_far h3 (fun k hk he => by have he' : k = gO := he; omega) u, by simpa using h4, h5⟩
theorem MW.rows {W : World} {gM : Nat} {v : Value} {out : List ByteArray} (h : Kd.R Kd.string 9 W (gM + 1) (fun k => gM < k) v out) {g : Nat} (hg : g ≤ gM) : some g ≠ v.ownBlock := fun he => by
  have := h.1 g he.symm
  omega
set_option maxHeartbeats 2000000 in
set_option maxRecDepth 100000 in
theorem madd.calls (gO gM : Nat) (W : World) (A : Option Addr) (c : Nat) (l : List ByteArray) (hl : ∀ W', Below gO W W' → Kd.C Kd.string W' A l.length l) (hs : ∀ s ∈ l, s.size ≤ 1000000) (out : List ByteArray) (hlen : out.length + l.length ≤ 100000000) (hSt : MW.St W gO gM out) :
  Calls Tryd.prog 29 #[.slice A l.length c, .pointer (some ⟨gO, 0, none⟩)] W fun e W' => e = .returned (.tuple #[]) ∧ MW.St W' gO gM (out ++ l.map wrB) ∧ Below gO W W' := by
 have HL := Aside0.mk hl
 have HS := Aside0.mk hs
 have HST := Aside0.mk hSt
 clear hl hs hSt
 go_enter Tryd.func29, Tryd.ntmps29
 go_wp2
 go_loopg [7] l.length (fun gg v7 wr => ∃ kk : Nat, kk ≤ l.length ∧ l.length - kk ≤ gg ∧ v7 = .int .i64 kk ∧ Aside0 (MW.St wr gO gM (out ++ (l.take kk).map wrB)) ∧ Aside0 (Below gO W wr))
 case atStart => exact ⟨0, Nat.zero_le _, by omega, rfl, ⟨by simpa using HST.out⟩, ⟨Below.refl _ _⟩⟩
 case round =>
  clear HST
  obtain ⟨kk, hkk, hg, rfl, HSR, HBR⟩ := hrel
  by_cases hlt : kk < l.length
  ·have q1 : decide ((kk : Int) < (l.length : Int)) = true := decide_eq_true (by omega)
   obtain ⟨ad, rfl, hcell⟩ := Kd.at_string (HL.out wr HBR.out) (kk : Int) (by omega) (by omega)
   simp only [Int.toNat_natCast] at hcell
   rw [show rdOf ByteArray.empty l (kk : Int) = l[kk] by simp [rdOf, hlt]] at hcell
   obtain ⟨y, hy⟩ : ∃ y, y = l[kk] := ⟨_, rfl⟩
   rw [← hy] at hcell
   have HWR := Aside0.mk (write_val y (by rw [hy]; have := HS.out _ (List.getElem_mem hlt); omega))
   obtain ⟨out1, hout1⟩ : ∃ o, o = out ++ (l.take kk).map wrB := ⟨_, rfl⟩
   have HOUT := Aside0.mk (show out1 ++ [wrB y] = out ++ (l.take (kk + 1)).map wrB by rw [hout1, hy, take_succ_at l kk hlt, List.map_append, List.append_assoc]; rfl)
   have HLN := Aside0.mk (show (out1.length + 1) * 16 ≤ 140737488355328 by
    have h_ := congrArg List.length hout1
    rw [List.length_append, List.length_map, List.length_take] at h_
    omega)
   rw [← hout1] at HSR
   obtain ⟨v1, hbo, hbm, hr, hz0, hgm⟩ := HSR.out
   have HR := Aside0.mk hr
   have BKO := Aside0.mk hbo
   have BKM := Aside0.mk hbm
   have HSZ := Aside0.mk hz0
   have HGM := Aside0.mk hgm
   have HNO := Aside0.mk (MW.rows hr (Nat.le_of_lt hgm))
   have HNM := Aside0.mk (MW.rows hr (Nat.le_refl gM))
   have hco := mw_cell hbo
   clear hbo hbm hr hz0 hgm hy hout1 HSR
   go_upto_region 3 with fail
   refine start_ (n := 6) (S := fun w' => w'.cell? ⟨gO, 0, none⟩ = some v1) (ds := [4, 5]) #[false, false, false, false, false, false] (by kernel_rfl) rfl rfl ((mw_cell BKO.out)) (fun hHeld => ?_)
   refine pu 1 12 #[false, true, false, false, false, false] rfl rfl (by kernel_rfl) ?_
   refine take_ (i := 0) (N := some 11) (v := ?_) (a' := ?_) #[true, true, false, false, false, false] rfl rfl (by kernel_rfl) (fun _ _ _ h => h) (Or.inl ⟨by rfl, ?_⟩) hHeld ?_ ?_
   rotate_left
   ·intro w' s0
    go_simp
    with_reducible rfl
   rotate_left
   ·simp only [Act.put, List.setIfInBounds_toArray, List.set_cons_zero, List.set_cons_succ, i64_w, i32_w]
    rfl
   refine one_ (i := 2) (N := some 13) #[true, true, true, false, false, false] rfl rfl (by kernel_rfl) (by decide) (fun K hK => ?_)
   refine goes_ Tryd.func30 (by kernel_rfl) rfl #[.string y] (by rfl) rfl rfl (by simp only [List.map_toArray, List.map_cons, List.map_nil]; rfl) ?_
   with_reducible refine (mark_write.calls y (wrB y) _ HWR.out).mono ?_
   rintro e w1 ⟨rfl, hq1⟩
   refine ⟨_, rfl, ?_⟩
   have HQ1 := Aside0.mk hq1
   have HR1 := Aside0.mk (Kd.R_below (Kd.R_drew HR.out) hq1)
   have BKO1 := Aside0.mk (show w1.heap[gO]? = _ from (hq1.block gO (blk_lt BKO.out)).trans BKO.out)
   have BKM1 := Aside0.mk (show w1.heap[gM]? = _ from (hq1.block gM (blk_lt BKM.out)).trans BKM.out)
   have HSZ1 := Aside0.mk (show gM + 1 ≤ w1.heap.size from Nat.le_trans (show gM + 1 ≤ wr.drew.heap.size from HSZ.out) (Below.size hq1))
   have HBM1 := Aside0.mk (show Below (gM + 1) wr.drew w1 from Below.mono hq1 (show gM + 1 ≤ wr.drew.heap.size from HSZ.out))
   clear hq1
   refine hK.out _ _ ((mw_cell BKO1.out)) (fun hHeld => ?_)
   clear hK K
   refine norm_ (a' := ?_) ?_ ?_
   rotate_left
   ·show Act.put _ (some 13) _ = _
    simp only [Act.put, List.setIfInBounds_toArray, List.set_cons_zero, List.set_cons_succ, i64_w, i32_w]
    rfl
   refine one_ (i := 3) (N := some 14) #[true, true, true, true, false, false] rfl rfl (by kernel_rfl) (by decide) (fun K hK => ?_)
   refine value_ (w1 := ?_) (v := ?_) (by rfl) rfl ?_ ?_
   rotate_left 2
   ·go_simp
    constructor
    ·rfl
    ·rfl
   refine hK.out _ _ ((mw_cell (w := _) (blk_alloc BKO1.out _))) (fun hHeld => ?_)
   clear hK K
   refine norm_ (a' := ?_) ?_ ?_
   rotate_left
   ·show Act.put _ (some 14) _ = _
    simp only [Act.put, List.setIfInBounds_toArray, List.set_cons_zero, List.set_cons_succ, i64_w, i32_w]
    rfl
   refine last_ (i := 4) (N := some 15) #[true, true, true, true, true, false] rfl rfl (by kernel_rfl) (by decide) (fun K hK => ?_)
   refine Kd.R_append_step Kd.string (w0 := wr.drew) (gM + 1) (by rfl) (.tmp 11) (.tmp 14) 23 9 (.string ⟨#[]⟩) 16 (by rfl) Tryd.underlying23 info9 rfl (by decide) (by omega) v1 out1 (wrB y) [.string (wrB y)] (fun k => gM < k) (fun _ => False) (by rfl) (by rfl) rfl (fun _ h_ => h_.elim) (fun k hk => Nat.lt_of_lt_of_le (Nat.lt_succ_self gM) (Nat.le_trans HSZ1.out hk)) HR1.out HBM1.out HSZ1.out HLN.out ?_
   intro v9 w5 hr9 hb9 hg9 hat9
   obtain ⟨A9, c9, rfl⟩ := Kd.R_slice hr9
   obtain ⟨n9, hn9⟩ : ∃ n9 : Nat, n9 = (out1 ++ [wrB y]).length := ⟨_, rfl⟩
   rw [← hn9] at hr9 ⊢
   have HR9 := Aside0.mk hr9
   have HBK9 := Aside0.mk (blk_grown BKO1.out hg9 HNO.out)
   have HMK9 := Aside0.mk (blk_grown BKM1.out hg9 HNM.out)
   have HB9 := Aside0.mk hb9
   have HE9 := Aside0.mk hg9
   have hz := mw_cell HBK9.out
   have hy := mw_frozen HBK9.out
   clear hr9 hb9 hat9 hg9 hn9
   refine hK.out _ _ ?_
   clear hK K
   refine norm_ (a' := ?_) ?_ ?_
   rotate_left
   ·show Act.put _ (some 15) _ = _
    simp only [Act.put, List.setIfInBounds_toArray, List.set_cons_zero, List.set_cons_succ, i64_w, i32_w]
    rfl
   refine last_ (i := 5) (N := none) #[true, true, true, true, true, true] rfl rfl (by kernel_rfl) (by decide) (fun K hK => ?_)
   refine skip_ (w1 := ?_) (by rfl) rfl ?_ ?_
   rotate_left
   ·go_simp
    rfl
   refine hK.out _ _ ?_
   clear hK K
   refine done_ (by kernel_rfl) ?_
   obtain ⟨W9, hW9⟩ : ∃ W9, W9 = w5.setCell ⟨gO, 0, none⟩ (.slice A9 n9 c9) := ⟨_, rfl⟩
   rw [← hW9]
   have HST9 := Aside0.mk (show MW.St W9 gO gM (out ++ (l.take (kk + 1)).map wrB) by
    rw [hW9, ← HOUT.out]
    exact MW.put (m := #[]) HBK9.out HMK9.out HR9.out (Nat.le_trans (show gM + 1 ≤ wr.drew.heap.size from HSZ.out) (Below.size HB9.out)) HGM.out)
   have HBL9 := Aside0.mk (show Below gO W W9 by
    rw [hW9]
    exact Below.setCell (p := ⟨gO, 0, none⟩) (Below.trans HBR.out (Below.mono (Below.trans (Below.mono (below_drew1 (Below.refl _ _)) HSZ.out) HB9.out) (by have := HGM.out; omega))) (Nat.le_refl gO) _)
   clear hW9 hz hy hco hcell
   simp only [Exit.inBlock, Exit.then]
   go_wp2
   go_roundg (l.length - (kk + 1))
   case measure => omega
   case rel => exact ⟨kk + 1, by omega, by omega, by go_num, HST9, HBL9⟩
  ·have q1 : decide ((kk : Int) < (l.length : Int)) = false := decide_eq_false (by omega)
   have hk : kk = l.length := by omega
   go_wp2
   go_end0
   refine ⟨rfl, ?_, HBR.out⟩
   have h_ := HSR.out
   rw [hk, List.take_length] at h_
   exact h_
def resL (x : S43) : List ByteArray := if x.f0 = 3 then x.f3 else x.f2
def cstep (m : ByteArray) (l o : List ByteArray) : List ByteArray := (o ++ [m]) ++ l.map wrB
def cup (x : S43) (o : List ByteArray) (J : Int) : List ByteArray := if J = 0 then o else if J = 1 then cstep mk0 x.f2 o else if J = 2 then cstep mk1 x.f1 (cstep mk0 x.f2 o) else cstep mk2 x.f3 (cstep mk1 x.f1 (cstep mk0 x.f2 o))
def wPiece (x : S43) (o : List ByteArray) : List ByteArray := if x.f0 = 5 then cstep mk2 x.f3 (cstep mk1 x.f1 (cstep mk0 x.f2 o)) ++ [mk3] else o ++ (resL x).map wrB
def wAll : List S43 → List ByteArray → List ByteArray
 | [], o => o
 | x :: t, o => wAll t (wPiece x o)
def rowfine (l : List ByteArray) : Bool := decide (l.length ≤ 1000) && l.all fun s => decide (s.size ≤ 1000000)
def pfine (x : S43) : Bool := rowfine x.f1 && (rowfine x.f2 && rowfine x.f3)
def wfine (p : List S43) : Bool := decide (p.length ≤ 1000) && p.all pfine
theorem rowfine_len {l : List ByteArray} (h : rowfine l = true) : l.length ≤ 1000 ∧ ∀ s ∈ l, s.size ≤ 1000000 := by
 unfold rowfine at h
 rw [Bool.and_eq_true, decide_eq_true_eq, List.all_eq_true] at h
 exact ⟨h.1, fun s hs => of_decide_eq_true (h.2 s hs)⟩
theorem wPiece_len {x : S43} {o : List ByteArray} (h : pfine x = true) : (wPiece x o).length ≤ o.length + 3004 := by
 unfold pfine at h
 rw [Bool.and_eq_true, Bool.and_eq_true] at h
 have h1 := (rowfine_len h.1).1
 have h2 := (rowfine_len h.2.1).1
 have h3 := (rowfine_len h.2.2).1
 unfold wPiece
 split
 ·simp only [cstep, List.length_append, List.length_map, List.length_cons, List.length_nil]
  omega
 ·unfold resL
  split <;> (rw [List.length_append, List.length_map]; omega)
def mark_Write.f (k : Nat) (l0 : List S43) : Option (List ByteArray × Int) := (merge_Check.f l0).bind fun e => if e = 0 then (if wfine l0 = true then some (if 400 < (wAll l0 []).length then ([], 4) else (wAll l0 [], 0)) else none) else some ([], e)
theorem result_any (k : Int) (A1 A2 A3 : Option Addr) (n1 n2 n3 c1 c2 c3 : Nat) (w : World) : Calls Tryd.prog 32 #[.agg #[.int .u8 k, .slice A1 n1 c1, .slice A2 n2 c2, .slice A3 n3 c3]] w fun e w' => e = .returned (if k = 3 then .slice A3 n3 c3 else .slice A2 n2 c2) ∧ Below w.heap.size w w' := by
 by_cases h : k = 3
 ·rw [if_pos h]
  subst h
  go_enter Tryd.func32, Tryd.ntmps32
  go_wp2
  go_ret
  exact ⟨rfl, (Below.refl _ _).alloc (Nat.le_refl _) _⟩
 ·rw [if_neg h]
  have q : (k == 3) = false := beq_eq_false_iff_ne.2 h
  have q2 : decide (k = 3) = false := decide_eq_false h
  go_enter Tryd.func32, Tryd.ntmps32
  go_wp2
  go_ret
  exact ⟨rfl, (Below.refl _ _).alloc (Nat.le_refl _) _⟩
theorem cells4 {w : World} {g : Nat} {t : TypeId} {a b c d : Value} (h : w.heap[g]? = some (.cells #[a, b, c, d] t (0, 0))) : w.cell? ⟨g, 0, none⟩ = some a ∧ w.cell? ⟨g, 1, none⟩ = some b ∧ w.cell? ⟨g, 2, none⟩ = some c ∧ w.cell? ⟨g, 3, none⟩ = some d :=
 ⟨(blk_cell h 0).trans rfl, (blk_cell h 1).trans rfl, (blk_cell h 2).trans rfl, (blk_cell h 3).trans rfl⟩
set_option maxHeartbeats 8000000 in
set_option maxRecDepth 100000 in
theorem mark_Write.calls (k : Nat) (A0 : Option Addr) (c0 : Nat) (l0 : List S43) (r1 : List ByteArray) (r2 : Int) (w : World) (hr0 : Kd.C k43 w A0 l0.length l0) (hc0 : l0.length ≤ c0) (h : mark_Write.f k l0 = some (r1, r2)) :
  Calls Tryd.prog 10 #[.slice A0 l0.length c0] w fun e w' => ∃ v0_ : Value, e = .returned (.tuple #[v0_, .int .i64 r2]) ∧ Kd.R Kd.string 9 w' w.heap.size (fun _ => True) v0_ r1 ∧ Below w.heap.size w w' := by
 have hu := Tryd.underlying43
 have eg : ∀ args w, (callFunc 29 args).run Tryd.prog w = .ok (.enter 29 args) w := enters_of Tryd.func29 (by kernel_rfl) rfl
 have i0 : ∀ (x y z : Value) W, (Instr.index 54 (.agg #[x, y, z]) (.int .i64 0)).run Tryd.prog W = .ok x W := fun x y z W => by kernel_rfl
 have i1 : ∀ (x y z : Value) W, (Instr.index 54 (.agg #[x, y, z]) (.int .i64 1)).run Tryd.prog W = .ok y W := fun x y z W => by kernel_rfl
 have i2 : ∀ (x y z : Value) W, (Instr.index 54 (.agg #[x, y, z]) (.int .i64 2)).run Tryd.prog W = .ok z W := fun x y z W => by kernel_rfl
 unfold mark_Write.f at h
 replace h := Option.bind_eq_some_iff.1 h
 obtain ⟨ce, hce, h⟩ := h
 have HCE := Aside0.mk hce
 have HR0 := Aside0.mk hr0
 have HC0 := Aside0.mk hc0
 clear hr0 hc0 hce
 by_cases he : ce = 0
 ·subst he
  rw [if_pos rfl] at h
  by_cases hfine : wfine l0 = true
  case neg => rw [if_neg hfine] at h; cases h
  rw [if_pos hfine] at h
  have HFI := Aside0.mk hfine
  have HH := Aside0.mk (Option.some.inj h)
  have hpl : l0.length ≤ 1000 := by
   unfold wfine at hfine
   rw [Bool.and_eq_true, decide_eq_true_eq] at hfine
   exact hfine.1
  clear h hfine
  obtain ⟨TOT, hTOT⟩ : ∃ TOT, TOT = wAll l0 [] := ⟨_, rfl⟩
  rw [← hTOT] at HH
  have HTT := Aside0.mk hTOT.symm
  clear hTOT
  go_enter Tryd.func10, Tryd.ntmps10
  go_upto_region 7 with (first | (go_at_call 28; (with_reducible refine (merge_Check.calls A0 c0 l0 0 _ HR0.out HC0.out HCE.out).mono ?_); rintro e_ w1 ⟨rfl, hb1⟩; have HB1 := Aside0.mk hb1; clear hb1) | (go_at_call 31; (with_reducible refine (marks_any _).mono ?_); rintro e_ w2 ⟨rfl, hb2⟩; have HB2 := Aside0.mk hb2; clear hb2))
  obtain ⟨W3, hW3⟩ : ∃ W3, W3 = w2.alloc (Obj.cells #[Value.string mk0, Value.string mk1, Value.string mk2, Value.string mk3] 52) := ⟨_, rfl⟩
  rw [← hW3]
  obtain ⟨gO, hgO⟩ : ∃ gO, gO = w1.heap.size := ⟨_, rfl⟩
  obtain ⟨gM, hgM⟩ : ∃ gM, gM = w2.heap.size := ⟨_, rfl⟩
  have hs2 : w1.heap.size + 1 ≤ w2.heap.size := by
   have h_ := Below.size HB2.out
   simpa using h_
  have HST3 := Aside0.mk (show MW.St W3 gO gM [] by
   rw [hW3, hgO, hgM]
   exact ⟨_, blk_alloc ((HB2.out.block _ (by simp)).trans (Go.heap_alloc_new w1 _)) _, Go.heap_alloc_new w2 _, Kd.R_nil _ _ _ _ _, by simp, by omega⟩)
  have HBW3 := Aside0.mk (show Below w.heap.size w W3 by
   rw [hW3]
   exact Below.alloc (Below.trans (Below.alloc HB1.out (Below.size HB1.out) _) (Below.mono HB2.out (by have h_ := Below.size HB1.out; simp; omega))) (by have h_ := Below.size HB1.out; omega) _)
  have HGO := Aside0.mk (show w.heap.size ≤ gO by rw [hgO]; exact Below.size HB1.out)
  rw [← hgO, ← hgM]
  clear hW3 hgO hgM hs2 HB1 HB2
  go_wp2
  go_loopg [21] l0.length (fun nq v21 wr => ∃ (i : Nat) (t : List S43) (o : List ByteArray), t.length = nq ∧ v21 = .int .i64 (i : Int) ∧ Aside0 (i + t.length = l0.length) ∧ Aside0 (l0.drop i = t) ∧ Aside0 (t.all pfine = true) ∧ Aside0 (wAll t o = TOT) ∧ Aside0 (o.length + 5000 * t.length ≤ 10000000) ∧ Aside0 (MW.St wr gO gM o) ∧ Aside0 (Below w.heap.size w wr))
  case atStart => exact ⟨0, l0, [], rfl, rfl, ⟨Nat.zero_add _⟩, ⟨rfl⟩, ⟨by have h_ := HFI.out; unfold wfine at h_; rw [Bool.and_eq_true] at h_; exact h_.2⟩, HTT, ⟨by simp; omega⟩, HST3, HBW3⟩
  case round =>
   clear HST3 HBW3 HTT HFI
   obtain ⟨i, t, o, hnq, rfl, HIT, HT, HFT, HALL, HLO, HST, HBL⟩ := hrel
   have HNQ0 := Aside0.mk hnq
   clear hnq
   cases t with
   | nil =>
    have hi : i = l0.length := by simpa using HIT.out
    have ci : decide ((i : Int) < (l0.length : Int)) = false := decide_eq_false (by omega)
    have ci2 : decide (i < l0.length) = false := decide_eq_false (by omega)
    have ci3 : (i < l0.length) = False := eq_false (by omega)
    obtain rfl : o = TOT := HALL.out
    clear hi HALL
    have hp := HH.out
    obtain ⟨v, hbo, hbm, hr, hz, hgm⟩ := HST.out
    obtain ⟨A9, c9, rfl⟩ := Kd.R_slice hr
    have HR := Aside0.mk (Kd.R_lower (Kd.R_mono hr (fun _ _ => trivial)) (show w.heap.size ≤ gM + 1 by have h_ := HGO.out; omega))
    have hco := mw_cell hbo
    clear hbo hbm hr hz hgm HST
    by_cases hbig : 400 < o.length
    ·rw [if_pos hbig] at hp
     obtain ⟨rfl, rfl⟩ := Prod.mk.inj hp
     have kb0 : decide ((o.length : Int) > 400) = true := decide_eq_true (by omega)
     have kb1 : decide ((400 : Int) < (o.length : Int)) = true := kb0
     have kb2 : decide (400 < o.length) = true := decide_eq_true hbig
     clear hp
     go_wp2
     go_ret2
     exact ⟨_, rfl, Kd.R_nil _ _ _ _ _, HBL.out⟩
    ·rw [if_neg hbig] at hp
     obtain ⟨rfl, rfl⟩ := Prod.mk.inj hp
     have kb0 : decide ((o.length : Int) > 400) = false := decide_eq_false (by omega)
     have kb1 : decide ((400 : Int) < (o.length : Int)) = false := kb0
     have kb2 : decide (400 < o.length) = false := decide_eq_false hbig
     clear hp
     go_wp2
     go_ret2
     exact ⟨_, rfl, HR.out, HBL.out⟩
   | cons x t =>
    have hi : i < l0.length := by have h_ := HIT.out; simp only [List.length_cons] at h_; omega
    have ci : decide ((i : Int) < (l0.length : Int)) = true := decide_eq_true (by omega)
    have hh : rd_T43 l0 (i : Int) = x := by
     unfold rd_T43
     rw [Int.toNat_natCast, List.getD_eq_getElem?_getD]
     have h_ := congrArg List.head? HT.out
     rw [List.head?_drop] at h_
     rw [h_]
     rfl
    have hf := HFT.out
    rw [List.all_cons, Bool.and_eq_true] at hf
    have HPF := Aside0.mk hf.1
    have HPL := Aside0.mk (wPiece_len (o := o) hf.1)
    have hpf := hf.1
    unfold pfine at hpf
    rw [Bool.and_eq_true, Bool.and_eq_true] at hpf
    have F1 := Aside0.mk (rowfine_len hpf.1)
    have F2 := Aside0.mk (rowfine_len hpf.2.1)
    have F3 := Aside0.mk (rowfine_len hpf.2.2)
    clear HFT
    have HFT := Aside0.mk hf.2
    have HAL := Aside0.mk (show wAll t (wPiece x o) = TOT from HALL.out)
    have HLO1 := Aside0.mk (show o.length + 5000 * t.length + 5000 ≤ 10000000 by have h_ := HLO.out; rw [List.length_cons] at h_; omega)
    have HLO2 := Aside0.mk (show (wPiece x o).length + 5000 * t.length ≤ 10000000 by have h_ := HLO1.out; have h2_ := HPL.out; omega)
    have HIT2 := Aside0.mk (show i + 1 + t.length = l0.length by have h_ := HIT.out; rw [List.length_cons] at h_; omega)
    have HT2 := Aside0.mk (show l0.drop (i + 1) = t by rw [← List.drop_drop, HT.out]; rfl)
    clear hf hpf HALL HLO HPL
    obtain ⟨ad, A1, c1, A2, c2, A3, c3, rfl, hx0, hx1, hx2, hx3, hl1, hi1, hl2, hi2, hl3, hi3⟩ := at_T43 HR0.out (i : Int) (by omega) (by omega)
    simp only [Int.toNat_natCast] at hx0 hx1 hx2 hx3
    rw [hh] at hx0 hx1 hx2 hx3 hl1 hi1 hl2 hi2 hl3 hi3
    have CH1 := Aside0.mk hi1
    have CH2 := Aside0.mk hi2
    have CH3 := Aside0.mk hi3
    replace hx0 := (HBL.out.cell (World.block_lt_of_cell? _ _ hx0)).trans hx0
    replace hx1 := (HBL.out.cell (World.block_lt_of_cell? _ _ hx1)).trans hx1
    replace hx2 := (HBL.out.cell (World.block_lt_of_cell? _ _ hx2)).trans hx2
    replace hx3 := (HBL.out.cell (World.block_lt_of_cell? _ _ hx3)).trans hx3
    clear hi1 hi2 hi3 hl1 hl2 hl3 hh HIT HT
    go_upto_region 10 with fail
    obtain ⟨W, hW⟩ : ∃ W, W = wr.alloc (Obj.cells #[.int .u8 x.f0, .slice A1 x.f1.length c1, .slice A2 x.f2.length c2, .slice A3 x.f3.length c3] 43) := ⟨_, rfl⟩
    obtain ⟨gX, hgX⟩ : ∃ gX, gX = wr.heap.size := ⟨_, rfl⟩
    rw [← hW, ← hgX]
    have BX := Aside0.mk (show W.heap[gX]? = some (.cells #[.int .u8 x.f0, .slice A1 x.f1.length c1, .slice A2 x.f2.length c2, .slice A3 x.f3.length c3] 43 (0, 0)) by rw [hW, hgX]; exact Go.heap_alloc_new wr _)
    have HBA := Aside0.mk (show Below wr.heap.size wr W by rw [hW]; exact (Below.refl _ _).alloc (Nat.le_refl _) _)
    have HSTW := Aside0.mk (MW.keep HST.out HBA.out)
    have HBLW := Aside0.mk (show Below w.heap.size w W from below_then HBL.out (Below.size HBL.out) HBA.out)
    clear hW hgX HBA HST HBL hx0 hx1 hx2 hx3
    obtain ⟨b0, b1, b2, b3⟩ := cells4 BX.out
    by_cases hk : x.f0 = 5
    ·have hK5 := hk
     have HWP0 := Aside0.mk (show cup x o 3 ++ [mk3] = wPiece x o by unfold wPiece; rw [if_pos hk]; rfl)
     rw [hk] at BX b0
     clear hk hK5
     go_wp2
     go_loopg [39] 3 (fun gg v39 wr => ∃ (J : Int), v39 = .int .i64 J ∧ 0 ≤ J ∧ J + (gg : Int) = 3 ∧ Aside0 (MW.St wr gO gM (cup x o J)) ∧ Aside0 (Below w.heap.size w wr))
     case atStart => exact ⟨0, rfl, by omega, by omega, HSTW, HBLW⟩
     case round =>
      clear HSTW
      obtain ⟨J, rfl, hJ0, hJ3, HSTJ, HBJ⟩ := hrel
      have hJ : J = 0 ∨ J = 1 ∨ J = 2 ∨ J = 3 := by omega
      rcases hJ with rfl | rfl | rfl | rfl
      ·obtain rfl : gk = 2 + 1 := by omega
       obtain ⟨o1, ho1⟩ : ∃ o1, o1 = cup x o 0 := ⟨_, rfl⟩
       have HO1 := Aside0.mk ho1
       rw [← ho1] at HSTJ
       have HLJ := Aside0.mk (show o1.length ≤ 19000000 by
        have h_ := HLO1.out
        have h1_ := F1.out.1
        have h2_ := F2.out.1
        have h3_ := F3.out.1
        rw [ho1]
        simp [cup, cstep]
        omega)
       obtain ⟨v1, hbo, hbm, hr, hz0, hgm⟩ := HSTJ.out
       clear ho1 HSTJ
       have HR := Aside0.mk hr
       have BKO := Aside0.mk hbo
       have BKM := Aside0.mk hbm
       have HSZ := Aside0.mk hz0
       have HGM := Aside0.mk hgm
       have HNO := Aside0.mk (MW.rows hr (Nat.le_of_lt hgm))
       have HNM := Aside0.mk (MW.rows hr (Nat.le_refl gM))
       have hco := mw_cell hbo
       clear hbo hbm hr hz0 hgm
       go_upto_region 15 with fail
       have HR1 := Aside0.mk (Kd.R_drew HR.out)
       have BKO1 := Aside0.mk (blk_drew BKO.out)
       have BKM1 := Aside0.mk (blk_drew BKM.out)
       have HSZ1 := Aside0.mk (show gM + 1 ≤ wr.drew.heap.size from HSZ.out)
       have HBM1 := Aside0.mk (Below.refl (gM + 1) wr.drew)
       have HLN := Aside0.mk (show (o1.length + 1) * 16 ≤ 140737488355328 by have h_ := HLJ.out; omega)
       refine start_ (n := 7) (S := fun w' => w'.cell? ⟨gO, 0, none⟩ = some v1 ∧ w'.cell? ⟨gM, 0, none⟩ = some (.string mk0)) (ds := [5, 6]) #[false, false, false, false, false, false, false] (by kernel_rfl) rfl rfl ⟨(mw_cell BKO1.out), ((blk_cell BKM1.out 0).trans rfl)⟩ (fun hHeld => ?_)
       refine pu 1 44 #[false, true, false, false, false, false, false] rfl rfl (by kernel_rfl) ?_
       refine pu 2 45 #[false, true, true, false, false, false, false] rfl rfl (by kernel_rfl) ?_
       refine take_ (i := 0) (N := some 43) (v := ?_) (a' := ?_) #[true, true, true, false, false, false, false] rfl rfl (by kernel_rfl) (fun _ _ _ h => h) (Or.inl ⟨by rfl, ?_⟩) hHeld ?_ ?_; rotate_left; (focus rintro w' ⟨s0, s1⟩; go_simp; with_reducible rfl); rotate_left; (focus go_simp; rfl)
       refine take_ (i := 3) (N := some 46) (v := ?_) (a' := ?_) #[true, true, true, true, false, false, false] rfl rfl (by kernel_rfl) (fun _ _ _ h => h) (Or.inl ⟨by rfl, ?_⟩) hHeld ?_ ?_; rotate_left; (focus rintro w' ⟨s0, s1⟩; go_simp; with_reducible rfl); rotate_left; (focus go_simp; rfl)
       refine one_ (i := 4) (N := some 47) #[true, true, true, true, true, false, false] rfl rfl (by kernel_rfl) (by decide) (fun K hK => ?_)
       refine value_ (w1 := ?_) (v := ?_) (by rfl) rfl ?_ ?_
       rotate_left 2
       ·go_simp
        constructor
        ·rfl
        ·rfl
       refine hK.out _ _ ⟨(mw_cell (blk_alloc BKO1.out _)), ((blk_cell (blk_alloc BKM1.out _) 0).trans rfl)⟩ (fun hHeld => ?_)
       clear hK K
       refine norm_ (a' := ?_) ?_ ?_
       rotate_left
       ·show Act.put _ (some 47) _ = _
        simp only [Act.put, List.setIfInBounds_toArray, List.set_cons_zero, List.set_cons_succ, i64_w, i32_w]
        rfl
       refine last_ (i := 5) (N := some 48) #[true, true, true, true, true, true, false] rfl rfl (by kernel_rfl) (by decide) (fun K hK => ?_)
       refine Kd.R_append_step Kd.string (w0 := wr.drew) (gM + 1) (by rfl) (.tmp 43) (.tmp 47) 23 9 (.string ⟨#[]⟩) 16 (by rfl) Tryd.underlying23 info9 rfl (by decide) (by omega) v1 o1 mk0 [.string mk0] (fun k => gM < k) (fun _ => False) (by rfl) (by rfl) rfl (fun _ h_ => h_.elim) (fun k hk => Nat.lt_of_lt_of_le (Nat.lt_succ_self gM) (Nat.le_trans HSZ1.out hk)) HR1.out HBM1.out HSZ1.out HLN.out ?_
       intro v9 w5 hr9 hb9 hg9 hat9
       obtain ⟨A9, c9, rfl⟩ := Kd.R_slice hr9
       obtain ⟨n9, hn9⟩ : ∃ n9 : Nat, n9 = (o1 ++ [mk0]).length := ⟨_, rfl⟩
       rw [← hn9] at hr9 ⊢
       have HR9 := Aside0.mk hr9
       have HBK9 := Aside0.mk (blk_grown BKO1.out hg9 HNO.out)
       have HMK9 := Aside0.mk (blk_grown BKM1.out hg9 HNM.out)
       have HB9 := Aside0.mk hb9
       have HE9 := Aside0.mk hg9
       have hz := mw_cell HBK9.out
       have hy := mw_frozen HBK9.out
       clear hr9 hb9 hat9 hg9 hn9
       refine hK.out _ _ ?_
       clear hK K
       refine norm_ (a' := ?_) ?_ ?_
       rotate_left
       ·show Act.put _ (some 48) _ = _
        simp only [Act.put, List.setIfInBounds_toArray, List.set_cons_zero, List.set_cons_succ, i64_w, i32_w]
        rfl
       refine last_ (i := 6) (N := none) #[true, true, true, true, true, true, true] rfl rfl (by kernel_rfl) (by decide) (fun K hK => ?_)
       refine skip_ (w1 := ?_) (by rfl) rfl ?_ ?_
       rotate_left
       ·go_simp
        rfl
       refine hK.out _ _ ?_
       clear hK K
       refine done_ (by kernel_rfl) ?_
       obtain ⟨W9, hW9⟩ : ∃ W9, W9 = w5.setCell ⟨gO, 0, none⟩ (.slice A9 n9 c9) := ⟨_, rfl⟩
       rw [← hW9]
       have HST9 := Aside0.mk (show MW.St W9 gO gM (o1 ++ [mk0]) by
        rw [hW9]
        exact MW.put (m := #[]) HBK9.out HMK9.out HR9.out (Nat.le_trans (show gM + 1 ≤ wr.drew.heap.size from HSZ.out) (Below.size HB9.out)) HGM.out)
       have HBL9 := Aside0.mk (show Below w.heap.size w W9 by
        rw [hW9]
        exact Below.setCell (p := ⟨gO, 0, none⟩) (Below.trans HBJ.out (Below.mono (Below.trans (Below.mono (below_drew1 (Below.refl _ _)) HSZ1.out) HB9.out) (by have := HGM.out; have := HGO.out; omega))) HGO.out _)
       have HCL := Aside0.mk (madd.calls gO gM W9 A2 c2 x.f2 (fun W' hb => Kd.C_below CH2.out (Below.trans HBL9.out (Below.mono hb HGO.out))) F2.out.2 (o1 ++ [mk0]) (by rw [List.length_append]; have h_ := HLJ.out; have h2_ := F2.out.1; simp; omega) HST9.out)
       clear hW9 hz hy hco
       (try simp only [Exit.inBlock, Exit.then])
       go_wp2_with (go_at_fn 29; (with_reducible refine HCL.out.mono ?_); rintro e_ w6 ⟨rfl, hst6, hb6⟩; have HST6 := Aside0.mk hst6; have HB6 := Aside0.mk hb6; clear hst6 hb6)
       have HSTN := Aside0.mk (show MW.St w6 gO gM (cup x o 1) by
        have h_ := HST6.out
        rw [HO1.out] at h_
        exact h_)
       have HBN := Aside0.mk (show Below w.heap.size w w6 from Below.trans HBL9.out (Below.mono HB6.out HGO.out))
       go_roundg 2
       case measure => omega
       case rel => exact ⟨1, rfl, by omega, by omega, HSTN, HBN⟩
      ·obtain rfl : gk = 1 + 1 := by omega
       obtain ⟨o1, ho1⟩ : ∃ o1, o1 = cup x o 1 := ⟨_, rfl⟩
       have HO1 := Aside0.mk ho1
       rw [← ho1] at HSTJ
       have HLJ := Aside0.mk (show o1.length ≤ 19000000 by
        have h_ := HLO1.out
        have h1_ := F1.out.1
        have h2_ := F2.out.1
        have h3_ := F3.out.1
        rw [ho1]
        simp [cup, cstep]
        omega)
       obtain ⟨v1, hbo, hbm, hr, hz0, hgm⟩ := HSTJ.out
       clear ho1 HSTJ
       have HR := Aside0.mk hr
       have BKO := Aside0.mk hbo
       have BKM := Aside0.mk hbm
       have HSZ := Aside0.mk hz0
       have HGM := Aside0.mk hgm
       have HNO := Aside0.mk (MW.rows hr (Nat.le_of_lt hgm))
       have HNM := Aside0.mk (MW.rows hr (Nat.le_refl gM))
       have hco := mw_cell hbo
       clear hbo hbm hr hz0 hgm
       go_upto_region 15 with fail
       have HR1 := Aside0.mk (Kd.R_drew HR.out)
       have BKO1 := Aside0.mk (blk_drew BKO.out)
       have BKM1 := Aside0.mk (blk_drew BKM.out)
       have HSZ1 := Aside0.mk (show gM + 1 ≤ wr.drew.heap.size from HSZ.out)
       have HBM1 := Aside0.mk (Below.refl (gM + 1) wr.drew)
       have HLN := Aside0.mk (show (o1.length + 1) * 16 ≤ 140737488355328 by have h_ := HLJ.out; omega)
       refine start_ (n := 7) (S := fun w' => w'.cell? ⟨gO, 0, none⟩ = some v1 ∧ w'.cell? ⟨gM, 1, none⟩ = some (.string mk1)) (ds := [5, 6]) #[false, false, false, false, false, false, false] (by kernel_rfl) rfl rfl ⟨(mw_cell BKO1.out), ((blk_cell BKM1.out 1).trans rfl)⟩ (fun hHeld => ?_)
       refine pu 1 44 #[false, true, false, false, false, false, false] rfl rfl (by kernel_rfl) ?_
       refine pu 2 45 #[false, true, true, false, false, false, false] rfl rfl (by kernel_rfl) ?_
       refine take_ (i := 0) (N := some 43) (v := ?_) (a' := ?_) #[true, true, true, false, false, false, false] rfl rfl (by kernel_rfl) (fun _ _ _ h => h) (Or.inl ⟨by rfl, ?_⟩) hHeld ?_ ?_; rotate_left; (focus rintro w' ⟨s0, s1⟩; go_simp; with_reducible rfl); rotate_left; (focus go_simp; rfl)
       refine take_ (i := 3) (N := some 46) (v := ?_) (a' := ?_) #[true, true, true, true, false, false, false] rfl rfl (by kernel_rfl) (fun _ _ _ h => h) (Or.inl ⟨by rfl, ?_⟩) hHeld ?_ ?_; rotate_left; (focus rintro w' ⟨s0, s1⟩; go_simp; with_reducible rfl); rotate_left; (focus go_simp; rfl)
       refine one_ (i := 4) (N := some 47) #[true, true, true, true, true, false, false] rfl rfl (by kernel_rfl) (by decide) (fun K hK => ?_)
       refine value_ (w1 := ?_) (v := ?_) (by rfl) rfl ?_ ?_
       rotate_left 2
       ·go_simp
        constructor
        ·rfl
        ·rfl
       refine hK.out _ _ ⟨(mw_cell (blk_alloc BKO1.out _)), ((blk_cell (blk_alloc BKM1.out _) 1).trans rfl)⟩ (fun hHeld => ?_)
       clear hK K
       refine norm_ (a' := ?_) ?_ ?_
       rotate_left
       ·show Act.put _ (some 47) _ = _
        simp only [Act.put, List.setIfInBounds_toArray, List.set_cons_zero, List.set_cons_succ, i64_w, i32_w]
        rfl
       refine last_ (i := 5) (N := some 48) #[true, true, true, true, true, true, false] rfl rfl (by kernel_rfl) (by decide) (fun K hK => ?_)
       refine Kd.R_append_step Kd.string (w0 := wr.drew) (gM + 1) (by rfl) (.tmp 43) (.tmp 47) 23 9 (.string ⟨#[]⟩) 16 (by rfl) Tryd.underlying23 info9 rfl (by decide) (by omega) v1 o1 mk1 [.string mk1] (fun k => gM < k) (fun _ => False) (by rfl) (by rfl) rfl (fun _ h_ => h_.elim) (fun k hk => Nat.lt_of_lt_of_le (Nat.lt_succ_self gM) (Nat.le_trans HSZ1.out hk)) HR1.out HBM1.out HSZ1.out HLN.out ?_
       intro v9 w5 hr9 hb9 hg9 hat9
       obtain ⟨A9, c9, rfl⟩ := Kd.R_slice hr9
       obtain ⟨n9, hn9⟩ : ∃ n9 : Nat, n9 = (o1 ++ [mk1]).length := ⟨_, rfl⟩
       rw [← hn9] at hr9 ⊢
       have HR9 := Aside0.mk hr9
       have HBK9 := Aside0.mk (blk_grown BKO1.out hg9 HNO.out)
       have HMK9 := Aside0.mk (blk_grown BKM1.out hg9 HNM.out)
       have HB9 := Aside0.mk hb9
       have HE9 := Aside0.mk hg9
       have hz := mw_cell HBK9.out
       have hy := mw_frozen HBK9.out
       clear hr9 hb9 hat9 hg9 hn9
       refine hK.out _ _ ?_
       clear hK K
       refine norm_ (a' := ?_) ?_ ?_
       rotate_left
       ·show Act.put _ (some 48) _ = _
        simp only [Act.put, List.setIfInBounds_toArray, List.set_cons_zero, List.set_cons_succ, i64_w, i32_w]
        rfl
       refine last_ (i := 6) (N := none) #[true, true, true, true, true, true, true] rfl rfl (by kernel_rfl) (by decide) (fun K hK => ?_)
       refine skip_ (w1 := ?_) (by rfl) rfl ?_ ?_
       rotate_left
       ·go_simp
        rfl
       refine hK.out _ _ ?_
       clear hK K
       refine done_ (by kernel_rfl) ?_
       obtain ⟨W9, hW9⟩ : ∃ W9, W9 = w5.setCell ⟨gO, 0, none⟩ (.slice A9 n9 c9) := ⟨_, rfl⟩
       rw [← hW9]
       have HST9 := Aside0.mk (show MW.St W9 gO gM (o1 ++ [mk1]) by
        rw [hW9]
        exact MW.put (m := #[]) HBK9.out HMK9.out HR9.out (Nat.le_trans (show gM + 1 ≤ wr.drew.heap.size from HSZ.out) (Below.size HB9.out)) HGM.out)
       have HBL9 := Aside0.mk (show Below w.heap.size w W9 by
        rw [hW9]
        exact Below.setCell (p := ⟨gO, 0, none⟩) (Below.trans HBJ.out (Below.mono (Below.trans (Below.mono (below_drew1 (Below.refl _ _)) HSZ1.out) HB9.out) (by have := HGM.out; have := HGO.out; omega))) HGO.out _)
       have HCL := Aside0.mk (madd.calls gO gM W9 A1 c1 x.f1 (fun W' hb => Kd.C_below CH1.out (Below.trans HBL9.out (Below.mono hb HGO.out))) F1.out.2 (o1 ++ [mk1]) (by rw [List.length_append]; have h_ := HLJ.out; have h2_ := F1.out.1; simp; omega) HST9.out)
       clear hW9 hz hy hco
       (try simp only [Exit.inBlock, Exit.then])
       go_wp2_with (go_at_fn 29; (with_reducible refine HCL.out.mono ?_); rintro e_ w6 ⟨rfl, hst6, hb6⟩; have HST6 := Aside0.mk hst6; have HB6 := Aside0.mk hb6; clear hst6 hb6)
       have HSTN := Aside0.mk (show MW.St w6 gO gM (cup x o 2) by
        have h_ := HST6.out
        rw [HO1.out] at h_
        exact h_)
       have HBN := Aside0.mk (show Below w.heap.size w w6 from Below.trans HBL9.out (Below.mono HB6.out HGO.out))
       go_roundg 1
       case measure => omega
       case rel => exact ⟨2, rfl, by omega, by omega, HSTN, HBN⟩
      ·obtain rfl : gk = 0 + 1 := by omega
       obtain ⟨o1, ho1⟩ : ∃ o1, o1 = cup x o 2 := ⟨_, rfl⟩
       have HO1 := Aside0.mk ho1
       rw [← ho1] at HSTJ
       have HLJ := Aside0.mk (show o1.length ≤ 19000000 by
        have h_ := HLO1.out
        have h1_ := F1.out.1
        have h2_ := F2.out.1
        have h3_ := F3.out.1
        rw [ho1]
        simp [cup, cstep]
        omega)
       obtain ⟨v1, hbo, hbm, hr, hz0, hgm⟩ := HSTJ.out
       clear ho1 HSTJ
       have HR := Aside0.mk hr
       have BKO := Aside0.mk hbo
       have BKM := Aside0.mk hbm
       have HSZ := Aside0.mk hz0
       have HGM := Aside0.mk hgm
       have HNO := Aside0.mk (MW.rows hr (Nat.le_of_lt hgm))
       have HNM := Aside0.mk (MW.rows hr (Nat.le_refl gM))
       have hco := mw_cell hbo
       clear hbo hbm hr hz0 hgm
       go_upto_region 15 with fail
       have HR1 := Aside0.mk (Kd.R_drew HR.out)
       have BKO1 := Aside0.mk (blk_drew BKO.out)
       have BKM1 := Aside0.mk (blk_drew BKM.out)
       have HSZ1 := Aside0.mk (show gM + 1 ≤ wr.drew.heap.size from HSZ.out)
       have HBM1 := Aside0.mk (Below.refl (gM + 1) wr.drew)
       have HLN := Aside0.mk (show (o1.length + 1) * 16 ≤ 140737488355328 by have h_ := HLJ.out; omega)
       refine start_ (n := 7) (S := fun w' => w'.cell? ⟨gO, 0, none⟩ = some v1 ∧ w'.cell? ⟨gM, 2, none⟩ = some (.string mk2)) (ds := [5, 6]) #[false, false, false, false, false, false, false] (by kernel_rfl) rfl rfl ⟨(mw_cell BKO1.out), ((blk_cell BKM1.out 2).trans rfl)⟩ (fun hHeld => ?_)
       refine pu 1 44 #[false, true, false, false, false, false, false] rfl rfl (by kernel_rfl) ?_
       refine pu 2 45 #[false, true, true, false, false, false, false] rfl rfl (by kernel_rfl) ?_
       refine take_ (i := 0) (N := some 43) (v := ?_) (a' := ?_) #[true, true, true, false, false, false, false] rfl rfl (by kernel_rfl) (fun _ _ _ h => h) (Or.inl ⟨by rfl, ?_⟩) hHeld ?_ ?_; rotate_left; (focus rintro w' ⟨s0, s1⟩; go_simp; with_reducible rfl); rotate_left; (focus go_simp; rfl)
       refine take_ (i := 3) (N := some 46) (v := ?_) (a' := ?_) #[true, true, true, true, false, false, false] rfl rfl (by kernel_rfl) (fun _ _ _ h => h) (Or.inl ⟨by rfl, ?_⟩) hHeld ?_ ?_; rotate_left; (focus rintro w' ⟨s0, s1⟩; go_simp; with_reducible rfl); rotate_left; (focus go_simp; rfl)
       refine one_ (i := 4) (N := some 47) #[true, true, true, true, true, false, false] rfl rfl (by kernel_rfl) (by decide) (fun K hK => ?_)
       refine value_ (w1 := ?_) (v := ?_) (by rfl) rfl ?_ ?_
       rotate_left 2
       ·go_simp
        constructor
        ·rfl
        ·rfl
       refine hK.out _ _ ⟨(mw_cell (blk_alloc BKO1.out _)), ((blk_cell (blk_alloc BKM1.out _) 2).trans rfl)⟩ (fun hHeld => ?_)
       clear hK K
       refine norm_ (a' := ?_) ?_ ?_
       rotate_left
       ·show Act.put _ (some 47) _ = _
        simp only [Act.put, List.setIfInBounds_toArray, List.set_cons_zero, List.set_cons_succ, i64_w, i32_w]
        rfl
       refine last_ (i := 5) (N := some 48) #[true, true, true, true, true, true, false] rfl rfl (by kernel_rfl) (by decide) (fun K hK => ?_)
       refine Kd.R_append_step Kd.string (w0 := wr.drew) (gM + 1) (by rfl) (.tmp 43) (.tmp 47) 23 9 (.string ⟨#[]⟩) 16 (by rfl) Tryd.underlying23 info9 rfl (by decide) (by omega) v1 o1 mk2 [.string mk2] (fun k => gM < k) (fun _ => False) (by rfl) (by rfl) rfl (fun _ h_ => h_.elim) (fun k hk => Nat.lt_of_lt_of_le (Nat.lt_succ_self gM) (Nat.le_trans HSZ1.out hk)) HR1.out HBM1.out HSZ1.out HLN.out ?_
       intro v9 w5 hr9 hb9 hg9 hat9
       obtain ⟨A9, c9, rfl⟩ := Kd.R_slice hr9
       obtain ⟨n9, hn9⟩ : ∃ n9 : Nat, n9 = (o1 ++ [mk2]).length := ⟨_, rfl⟩
       rw [← hn9] at hr9 ⊢
       have HR9 := Aside0.mk hr9
       have HBK9 := Aside0.mk (blk_grown BKO1.out hg9 HNO.out)
       have HMK9 := Aside0.mk (blk_grown BKM1.out hg9 HNM.out)
       have HB9 := Aside0.mk hb9
       have HE9 := Aside0.mk hg9
       have hz := mw_cell HBK9.out
       have hy := mw_frozen HBK9.out
       clear hr9 hb9 hat9 hg9 hn9
       refine hK.out _ _ ?_
       clear hK K
       refine norm_ (a' := ?_) ?_ ?_
       rotate_left
       ·show Act.put _ (some 48) _ = _
        simp only [Act.put, List.setIfInBounds_toArray, List.set_cons_zero, List.set_cons_succ, i64_w, i32_w]
        rfl
       refine last_ (i := 6) (N := none) #[true, true, true, true, true, true, true] rfl rfl (by kernel_rfl) (by decide) (fun K hK => ?_)
       refine skip_ (w1 := ?_) (by rfl) rfl ?_ ?_
       rotate_left
       ·go_simp
        rfl
       refine hK.out _ _ ?_
       clear hK K
       refine done_ (by kernel_rfl) ?_
       obtain ⟨W9, hW9⟩ : ∃ W9, W9 = w5.setCell ⟨gO, 0, none⟩ (.slice A9 n9 c9) := ⟨_, rfl⟩
       rw [← hW9]
       have HST9 := Aside0.mk (show MW.St W9 gO gM (o1 ++ [mk2]) by
        rw [hW9]
        exact MW.put (m := #[]) HBK9.out HMK9.out HR9.out (Nat.le_trans (show gM + 1 ≤ wr.drew.heap.size from HSZ.out) (Below.size HB9.out)) HGM.out)
       have HBL9 := Aside0.mk (show Below w.heap.size w W9 by
        rw [hW9]
        exact Below.setCell (p := ⟨gO, 0, none⟩) (Below.trans HBJ.out (Below.mono (Below.trans (Below.mono (below_drew1 (Below.refl _ _)) HSZ1.out) HB9.out) (by have := HGM.out; have := HGO.out; omega))) HGO.out _)
       have HCL := Aside0.mk (madd.calls gO gM W9 A3 c3 x.f3 (fun W' hb => Kd.C_below CH3.out (Below.trans HBL9.out (Below.mono hb HGO.out))) F3.out.2 (o1 ++ [mk2]) (by rw [List.length_append]; have h_ := HLJ.out; have h2_ := F3.out.1; simp; omega) HST9.out)
       clear hW9 hz hy hco
       (try simp only [Exit.inBlock, Exit.then])
       go_wp2_with (go_at_fn 29; (with_reducible refine HCL.out.mono ?_); rintro e_ w6 ⟨rfl, hst6, hb6⟩; have HST6 := Aside0.mk hst6; have HB6 := Aside0.mk hb6; clear hst6 hb6)
       have HSTN := Aside0.mk (show MW.St w6 gO gM (cup x o 3) by
        have h_ := HST6.out
        rw [HO1.out] at h_
        exact h_)
       have HBN := Aside0.mk (show Below w.heap.size w w6 from Below.trans HBL9.out (Below.mono HB6.out HGO.out))
       go_roundg 0
       case measure => omega
       case rel => exact ⟨3, rfl, by omega, by omega, HSTN, HBN⟩
      ·obtain ⟨o1, ho1⟩ : ∃ o1, o1 = cup x o 3 := ⟨_, rfl⟩
       rw [← ho1] at HSTJ
       have HWP := Aside0.mk (show o1 ++ [mk3] = wPiece x o by rw [ho1]; exact HWP0.out)
       have HLJ := Aside0.mk (show o1.length ≤ 19000000 by
        have h_ := HLO1.out
        have h1_ := F1.out.1
        have h2_ := F2.out.1
        have h3_ := F3.out.1
        rw [ho1]
        simp [cup, cstep]
        omega)
       obtain ⟨v1, hbo, hbm, hr, hz0, hgm⟩ := HSTJ.out
       obtain ⟨Ax, cx, rfl⟩ := Kd.R_slice hr
       clear ho1 HSTJ
       have HR := Aside0.mk hr
       have BKO := Aside0.mk hbo
       have BKM := Aside0.mk hbm
       have HSZ := Aside0.mk hz0
       have HGM := Aside0.mk hgm
       have HNO := Aside0.mk (MW.rows hr (Nat.le_of_lt hgm))
       have HNM := Aside0.mk (MW.rows hr (Nat.le_refl gM))
       have hco := mw_cell hbo
       have hcm := (blk_cell hbm 3).trans rfl
       have HBM1 := Aside0.mk (Below.refl (gM + 1) wr)
       clear hbo hbm hr hz0 hgm
       go_wp2_with (first | ((with_reducible refine gate_builtin (b := .append) (xs := #[.tmp 53, .tmp 56]) rfl ?_); at_builtin; refine Kd.R_append Kd.string (w0 := wr) (gM + 1) rfl (.tmp 53) (.tmp 56) 23 9 (.string ⟨#[]⟩) 16 rfl Tryd.underlying23 info9 rfl (by decide) (by omega) (.slice Ax o1.length cx) o1 mk3 [.string mk3] (fun k => gM < k) (fun _ => False) rfl rfl ?aP (fun _ hk => hk.elim) ?aF ?aO ?aB ?aS ?aL ?_; (case aP => exact rfl); (case aB => exact HBM1.out); (case aF => exact (fun k hk => Nat.lt_of_lt_of_le (Nat.lt_succ_self gM) (Nat.le_trans HSZ.out hk))); (case aO => exact HR.out); (case aS => exact HSZ.out); (case aL => have h_ := HLJ.out; omega); intro v9 w5 hr9 hb9 hg9 hat9; obtain ⟨A9, c9, rfl⟩ := Kd.R_slice hr9; obtain ⟨n9, hn9⟩ : ∃ n9 : Nat, n9 = (o1 ++ [mk3]).length := ⟨_, rfl⟩; rw [← hn9] at hr9 ⊢; have HR9 := Aside0.mk hr9; have HBK9 := Aside0.mk (blk_grown BKO.out hg9 HNO.out); have HMK9 := Aside0.mk (blk_grown BKM.out hg9 HNM.out); have HB9 := Aside0.mk hb9; have hz := mw_cell HBK9.out; have hy := mw_frozen HBK9.out; clear hr9 hb9 hat9 hg9 hn9))
       obtain ⟨W9, hW9⟩ : ∃ W9, W9 = w5.setCell ⟨gO, 0, none⟩ (.slice A9 n9 c9) := ⟨_, rfl⟩
       rw [← hW9]
       have HST9 := Aside0.mk (show MW.St W9 gO gM (wPiece x o) by
        rw [hW9, ← HWP.out]
        exact MW.put (m := #[]) HBK9.out HMK9.out HR9.out (Nat.le_trans HSZ.out (Below.size HB9.out)) HGM.out)
       have HBL9 := Aside0.mk (show Below w.heap.size w W9 by
        rw [hW9]
        exact Below.setCell (p := ⟨gO, 0, none⟩) (Below.trans HBJ.out (Below.mono HB9.out (by have := HGM.out; have := HGO.out; omega))) HGO.out _)
       clear hW9
       go_roundg t.length
       case measure => have h_ := HNQ0.out; rw [List.length_cons] at h_; omega
       case rel => exact ⟨i + 1, t, wPiece x o, rfl, by go_num, HIT2, HT2, HFT, HAL, HLO2, HST9, HBL9⟩
    ·have k5 : (x.f0 == 5) = false := beq_eq_false_iff_ne.2 hk
     have HWP := Aside0.mk (show o ++ (resL x).map wrB = wPiece x o by unfold wPiece; rw [if_neg hk])
     by_cases h3 : x.f0 = 3
     ·have e3 := Aside0.mk (show resL x = x.f3 from if_pos h3)
      have RS := Aside0.mk (show ∀ W', Calls Tryd.prog 32 #[.agg #[.int .u8 x.f0, .slice A1 x.f1.length c1, .slice A2 x.f2.length c2, .slice A3 x.f3.length c3]] W' fun e w' => e = .returned (.slice A3 x.f3.length c3) ∧ Below W'.heap.size W' w' from fun W' => by
       have h_ := result_any x.f0 A1 A2 A3 x.f1.length x.f2.length x.f3.length c1 c2 c3 W'
       rw [if_pos h3] at h_
       exact h_)
      clear h3
      go_wp2_with (first | (go_at_call 32; (with_reducible refine (RS.out _).mono ?_); rintro e_ w4 ⟨rfl, hb4⟩; have HB4 := Aside0.mk hb4; clear hb4) | (go_at_fn 29; (with_reducible refine (madd.calls gO gM _ A3 c3 x.f3 (fun W' hb => Kd.C_below CH3.out (Below.trans HBLW.out (Below.trans (Below.mono HB4.out (Below.size HBLW.out)) (Below.mono hb HGO.out)))) F3.out.2 o (by have h_ := HLO1.out; have h2_ := F3.out.1; omega) (MW.keep HSTW.out HB4.out)).mono ?_); rintro e_ w5 ⟨rfl, hst5, hb5⟩; have HST5 := Aside0.mk hst5; have HB5 := Aside0.mk hb5; clear hst5 hb5))
      have HSTN := Aside0.mk (show MW.St w5 gO gM (wPiece x o) by rw [← HWP.out, e3.out]; exact HST5.out)
      have HBLN := Aside0.mk (show Below w.heap.size w w5 from Below.trans HBLW.out (Below.trans (Below.mono HB4.out (Below.size HBLW.out)) (Below.mono HB5.out HGO.out)))
      go_roundg t.length
      case measure => have h_ := HNQ0.out; rw [List.length_cons] at h_; omega
      case rel => exact ⟨i + 1, t, wPiece x o, rfl, by go_num, HIT2, HT2, HFT, HAL, HLO2, HSTN, HBLN⟩
     ·have e3 := Aside0.mk (show resL x = x.f2 from if_neg h3)
      have RS := Aside0.mk (show ∀ W', Calls Tryd.prog 32 #[.agg #[.int .u8 x.f0, .slice A1 x.f1.length c1, .slice A2 x.f2.length c2, .slice A3 x.f3.length c3]] W' fun e w' => e = .returned (.slice A2 x.f2.length c2) ∧ Below W'.heap.size W' w' from fun W' => by
       have h_ := result_any x.f0 A1 A2 A3 x.f1.length x.f2.length x.f3.length c1 c2 c3 W'
       rw [if_neg h3] at h_
       exact h_)
      go_wp2_with (first | (go_at_call 32; (with_reducible refine (RS.out _).mono ?_); rintro e_ w4 ⟨rfl, hb4⟩; have HB4 := Aside0.mk hb4; clear hb4) | (go_at_fn 29; (with_reducible refine (madd.calls gO gM _ A2 c2 x.f2 (fun W' hb => Kd.C_below CH2.out (Below.trans HBLW.out (Below.trans (Below.mono HB4.out (Below.size HBLW.out)) (Below.mono hb HGO.out)))) F2.out.2 o (by have h_ := HLO1.out; have h2_ := F2.out.1; omega) (MW.keep HSTW.out HB4.out)).mono ?_); rintro e_ w5 ⟨rfl, hst5, hb5⟩; have HST5 := Aside0.mk hst5; have HB5 := Aside0.mk hb5; clear hst5 hb5))
      have HSTN := Aside0.mk (show MW.St w5 gO gM (wPiece x o) by rw [← HWP.out, e3.out]; exact HST5.out)
      have HBLN := Aside0.mk (show Below w.heap.size w w5 from Below.trans HBLW.out (Below.trans (Below.mono HB4.out (Below.size HBLW.out)) (Below.mono HB5.out HGO.out)))
      go_roundg t.length
      case measure => have h_ := HNQ0.out; rw [List.length_cons] at h_; omega
      case rel => exact ⟨i + 1, t, wPiece x o, rfl, by go_num, HIT2, HT2, HFT, HAL, HLO2, HSTN, HBLN⟩
 ·rw [if_neg he] at h
  obtain ⟨rfl, rfl⟩ := Prod.mk.inj (Option.some.inj h)
  have q1 : (ce == 0) = false := beq_eq_false_iff_ne.2 he
  clear h he
  go_enter Tryd.func10, Tryd.ntmps10
  go_wp2_with (first | (go_at_call 28; (with_reducible refine (merge_Check.calls A0 c0 l0 ce _ HR0.out HC0.out HCE.out).mono ?_); rintro e_ w1 ⟨rfl, hb1⟩; have HB1 := Aside0.mk hb1; clear hb1))
  go_ret2
  exact ⟨_, rfl, Kd.R_nil _ _ _ _ _, HB1.out⟩
end Go.Proofs.YtpklfaglenkdaaaDoor.Pr
end
section
namespace Go.Proofs.YtpklfaglenkdaaaDoor.Pr
open Go.RowKit Go.Proofs.YtpklfaglenkdaaaDoorW.PrintWords Go.Proofs.YtpklfaglenkdaaaDoorW.PrintLast Go.Proofs.YtpklfaglenkdaaaDoorW.PrintMore
set_option maxRecDepth 20000
def slices_Clone.f (l0 : List ByteArray) : Option (List ByteArray) := if l0.length < 8796093022208 then some l0 else none
set_option maxHeartbeats 2000000 in
theorem slices_Clone.calls (A0 : Option Addr) (c0 : Nat) (l0 : List ByteArray) (r : List ByteArray) (w : World) (hr0 : Kd.C Kd.string w A0 l0.length l0) (hc0 : l0.length ≤ c0) (h : slices_Clone.f l0 = some r) :
    Calls Tryd.prog 34 #[.slice A0 l0.length c0] w fun e w' => ∃ v0_ : Value, e = .returned (v0_) ∧ Kd.R Kd.string 9 w' w.heap.size (fun _ => True) v0_ r ∧ Below w.heap.size w w' := by
  have qn : ∀ (w : World) (a : Option Addr) (n c n' c' : Nat), (binOp .eql 23 (.slice a n c) (.slice none n' c')).run Tryd.prog w = .ok (.bool a.isNone) w := fun w a n c n' c' => Lib.run_eql_slice_nil w _ _ a n c n' c' Tryd.underlying23
  unfold slices_Clone.f at h
  split at h
  · rename_i hl
    injection h with h
    subst h
    cases A0 with
    | none =>
      obtain rfl : l0 = [] := by
        by_cases hp : 0 < l0.length
        · obtain ⟨ad, e, _⟩ := hr0.2.2 hp
          cases e
        · exact List.length_eq_zero_iff.1 (by omega)
      clear hr0
      go_enter Tryd.func34, Tryd.ntmps34
      go_wp2
      go_ret
      exact ⟨_, rfl, Kd.R_nil _ _ _ _ _, by repeat (first | exact Below.refl _ _ | apply below_drew1 | apply pw_below_drewN)⟩
    | some ad =>
      have HR0 := Aside0.mk hr0
      have HL := Aside0.mk hl
      clear hr0 hl
      go_enter Tryd.func34, Tryd.ntmps34
      go_wp2_with (first
        | (refine Kd.R_lit Kd.string (w0 := w) w.heap.size 9 rfl rfl (xs := ([] : List ByteArray)) (inner := []) (ok := fun _ => True) (okp := fun _ => True) ?hr ?hp (fun _ hk => hk) trivial (by repeat (first | exact Below.refl _ _ | apply below_drew1 | apply pw_below_drewN)) (below_size (by repeat (first | exact Below.refl _ _ | apply below_drew1 | apply pw_below_drewN))) (by simp) ?_
           (case hr => first | (go_simp; done) | (go_simp; rfl))
           (case hp => exact (Reps.none _ _))
           rintro v1 w1 ho hb hg hat
           obtain ⟨A6, c6, rfl⟩ := Kd.R_slice ho
           have HO := Aside0.mk ho
           have HB := Aside0.mk hb
           clear ho hb hg hat)
        | (at_builtin
           refine Kd.R_append_rows Kd.string (w0 := w) w.heap.size rfl _ _ 23 9 (.string ⟨#[]⟩) 16 rfl Tryd.underlying23 info9 rfl (by decide) (by omega) (.slice A6 0 c6) [] l0 _ _ _ (fun _ => True) (fun _ => False) rfl rfl HO.out (Kd.C_below HR0.out HB.out) (fun _ _ h => h) (fun _ h => h.elim) (fun _ _ => trivial) HB.out (below_size HB.out) (by have := HL.out; simp; omega) ?_
           rintro v2 w2 ho2 hb2 hg2 hat2
           have HO2 := Aside0.mk ho2
           have HB2 := Aside0.mk hb2
           clear ho2 hb2 hg2 hat2))
      go_ret
      exact ⟨_, rfl, HO2.out, HB2.out⟩
  · cases h
end Go.Proofs.YtpklfaglenkdaaaDoor.Pr
end
section
namespace Go.Proofs.YtpklfaglenkdaaaDoor.Pr
open Go.RowKit Go.Proofs.YtpklfaglenkdaaaDoorW.PrintWords Go.Proofs.YtpklfaglenkdaaaDoorW.PrintLast Go.Proofs.YtpklfaglenkdaaaDoorW.PrintMore
attribute [local go_sem] max2_int min2_int max_two min_two max_three min_three max_four min_four   
def stringslite_HasPrefix.f (a0 : ByteArray) (a1 : ByteArray) : Option (Bool) := if (a0.size : Int) ≥ (a1.size : Int) then (if 0 ≤ (a1.size : Int) then (if (a1.size : Int) ≤ (a0.size : Int) then (some ((a0.extract 0 ((a1.size : Int) : Int).toNat).toList == a1.toList)) else (none)) else (none)) else (some false)
set_option maxHeartbeats 8000000 in
set_option maxRecDepth 100000 in
theorem stringslite_HasPrefix.calls (a0 : ByteArray) (a1 : ByteArray) (r : Bool) (w : World) (h : stringslite_HasPrefix.f a0 a1 = some r) :
  Calls Tryd.prog 84 #[.string a0, .string a1] w fun e w' => e = .returned (.bool r) ∧ Drawn0 w w' := by
 have H : (if (a0.size : Int) ≥ (a1.size : Int) then (if 0 ≤ (a1.size : Int) then (if (a1.size : Int) ≤ (a0.size : Int) then (some ((a0.extract 0 ((a1.size : Int) : Int).toNat).toList == a1.toList)) else (none)) else (none)) else (some false)) = some r := h
 clear h
 by_cases c3 : (a0.size : Int) ≥ (a1.size : Int)
 ·rw [if_pos c3] at H
  have c3b0 : decide ((a1.size : Int) ≤ (a0.size : Int)) = true := decide_eq_true c3
  have c3b1 : decide (a1.size ≤ a0.size) = true := decide_eq_true (Int.ofNat_le.mp c3)
  clear c3
  by_cases c4 : 0 ≤ (a1.size : Int)
  ·rw [if_pos c4] at H
   have c4b0 := eq_true c4
   have c4b1 : decide (0 ≤ (a1.size : Int)) = true := decide_eq_true c4
   clear c4
   by_cases c5 : (a1.size : Int) ≤ (a0.size : Int)
   ·rw [if_pos c5] at H
    have c5b0 := eq_true c5
    have c5b1 : decide ((a1.size : Int) ≤ (a0.size : Int)) = true := decide_eq_true c5
    clear c5
    obtain rfl := Option.some.inj H
    go_enter Tryd.func84, Tryd.ntmps84
    go_wp2
    go_ret
    exact ⟨by first | rfl | (simp; done) | (simp [*]; done), by repeat (first | exact Drawn0.refl _ | apply Drawn0.step)⟩
   ·rw [if_neg c5] at H
    exact absurd H (by simp)
  ·rw [if_neg c4] at H
   exact absurd H (by simp)
 ·rw [if_neg c3] at H
  have c3b0 : decide ((a1.size : Int) ≤ (a0.size : Int)) = false := decide_eq_false c3
  have c3b1 : decide (a1.size ≤ a0.size) = false := decide_eq_false (fun h => c3 (Int.ofNat_le.mpr h))
  clear c3
  obtain rfl := Option.some.inj H
  go_enter Tryd.func84, Tryd.ntmps84
  go_wp2
  go_ret
  exact ⟨by first | rfl | (simp; done) | (simp [*]; done), by repeat (first | exact Drawn0.refl _ | apply Drawn0.step)⟩
end Go.Proofs.YtpklfaglenkdaaaDoor.Pr
end
section
namespace Go.Proofs.YtpklfaglenkdaaaDoor.Pr
open Go.RowKit Go.Proofs.YtpklfaglenkdaaaDoorW.PrintWords Go.Proofs.YtpklfaglenkdaaaDoorW.PrintLast Go.Proofs.YtpklfaglenkdaaaDoorW.PrintMore
attribute [local go_sem] max2_int min2_int max_two min_two max_three min_three max_four min_four   
def stringslite_CutPrefix.f (a0 : ByteArray) (a1 : ByteArray) : Option (ByteArray × Bool) := (stringslite_HasPrefix.f a0 a1).bind fun t402 => (if t402 = true then (if 0 ≤ (a1.size : Int) then (if (a1.size : Int) ≤ (a0.size : Int) then (some (a0.extract ((a1.size : Int) : Int).toNat a0.size, true)) else (none)) else (none)) else (some (a0, false)))
set_option maxHeartbeats 8000000 in
set_option maxRecDepth 100000 in
theorem stringslite_CutPrefix.calls (a0 : ByteArray) (a1 : ByteArray) (r1 : ByteArray) (r2 : Bool) (w : World) (h : stringslite_CutPrefix.f a0 a1 = some (r1, r2)) :
  Calls Tryd.prog 72 #[.string a0, .string a1] w fun e w' => e = .returned (.tuple #[.string r1, .bool r2]) ∧ Drawn0 w w' := by
 have H : ((stringslite_HasPrefix.f a0 a1).bind fun t402 => (if t402 = true then (if 0 ≤ (a1.size : Int) then (if (a1.size : Int) ≤ (a0.size : Int) then (some (a0.extract ((a1.size : Int) : Int).toNat a0.size, true)) else (none)) else (none)) else (some (a0, false)))) = some (r1, r2) := h
 clear h
 replace H := Option.bind_eq_some_iff.mp H
 obtain ⟨t402, A30, H⟩ := H
 replace H : (if t402 = true then (if 0 ≤ (a1.size : Int) then (if (a1.size : Int) ≤ (a0.size : Int) then (some (a0.extract ((a1.size : Int) : Int).toNat a0.size, true)) else (none)) else (none)) else (some (a0, false))) = some (r1, r2) := H
 have A3 := Aside0.mk A30
 clear A30
 by_cases c4 : t402 = true
 ·subst c4
  have H1 : (if 0 ≤ (a1.size : Int) then (if (a1.size : Int) ≤ (a0.size : Int) then (some (a0.extract ((a1.size : Int) : Int).toNat a0.size, true)) else (none)) else (none)) = some (r1, r2) := by rw [if_pos rfl] at H; exact H
  clear H
  have H := H1
  clear H1
  by_cases c5 : 0 ≤ (a1.size : Int)
  ·rw [if_pos c5] at H
   have c5b0 := eq_true c5
   have c5b1 : decide (0 ≤ (a1.size : Int)) = true := decide_eq_true c5
   clear c5
   by_cases c6 : (a1.size : Int) ≤ (a0.size : Int)
   ·rw [if_pos c6] at H
    have c6b0 := eq_true c6
    have c6b1 : decide ((a1.size : Int) ≤ (a0.size : Int)) = true := decide_eq_true c6
    clear c6
    simp only [Option.some.injEq, Prod.mk.injEq] at H
    obtain ⟨rfl, rfl⟩ := H
    go_enter Tryd.func72, Tryd.ntmps72
    go_wp2_with (first | ((with_reducible refine gate_callee (f := 84) rfl ?_); refine goesL_ (some 8) rfl rfl Tryd.func84 (by kernel_rfl) rfl #[.string a0, .string a1] rfl (by (try simp only [List.map_toArray, List.map_cons, List.map_nil]); first | done | rfl | (simp only [List.length_drop, List.length_take]; rfl)) ?_; (with_reducible refine (stringslite_HasPrefix.calls a0 a1 true _ A3.out).mono ?_); rintro e w' ⟨rfl, ⟨nd, rfl⟩⟩; refine ⟨_, rfl, ?_⟩))
    go_ret2
    exact ⟨by first | rfl | (simp; done) | (simp [*]; done), by repeat (first | exact Drawn0.refl _ | apply Drawn0.step)⟩
   ·rw [if_neg c6] at H
    exact absurd H (by simp)
  ·rw [if_neg c5] at H
   exact absurd H (by simp)
 ·replace c4 := Bool.eq_false_iff.mpr c4
  subst c4
  have H1 : (some (a0, false)) = some (r1, r2) := by rw [if_neg (show ¬ (false = true) by decide)] at H; exact H
  clear H
  have H := H1
  clear H1
  simp only [Option.some.injEq, Prod.mk.injEq] at H
  obtain ⟨rfl, rfl⟩ := H
  go_enter Tryd.func72, Tryd.ntmps72
  go_wp2_with (first | ((with_reducible refine gate_callee (f := 84) rfl ?_); refine goesL_ (some 8) rfl rfl Tryd.func84 (by kernel_rfl) rfl #[.string a0, .string a1] rfl (by (try simp only [List.map_toArray, List.map_cons, List.map_nil]); first | done | rfl | (simp only [List.length_drop, List.length_take]; rfl)) ?_; (with_reducible refine (stringslite_HasPrefix.calls a0 a1 false _ A3.out).mono ?_); rintro e w' ⟨rfl, ⟨nd, rfl⟩⟩; refine ⟨_, rfl, ?_⟩))
  go_ret2
  exact ⟨by first | rfl | (simp; done) | (simp [*]; done), by repeat (first | exact Drawn0.refl _ | apply Drawn0.step)⟩
end Go.Proofs.YtpklfaglenkdaaaDoor.Pr
end
section
namespace Go.Proofs.YtpklfaglenkdaaaDoor.Pr
open Go.RowKit Go.Proofs.YtpklfaglenkdaaaDoorW.PrintWords Go.Proofs.YtpklfaglenkdaaaDoorW.PrintLast Go.Proofs.YtpklfaglenkdaaaDoorW.PrintMore
attribute [local go_sem] max2_int min2_int max_two min_two max_three min_three max_four min_four   
def strings_CutPrefix.f (a0 : ByteArray) (a1 : ByteArray) : Option (ByteArray × Bool) := (stringslite_CutPrefix.f a0 a1).bind fun bt403 => (some (bt403.1, bt403.2))
set_option maxHeartbeats 8000000 in
set_option maxRecDepth 100000 in
theorem strings_CutPrefix.calls (a0 : ByteArray) (a1 : ByteArray) (r1 : ByteArray) (r2 : Bool) (w : World) (h : strings_CutPrefix.f a0 a1 = some (r1, r2)) :
  Calls Tryd.prog 52 #[.string a0, .string a1] w fun e w' => e = .returned (.tuple #[.string r1, .bool r2]) ∧ Drawn0 w w' := by
 have H : ((stringslite_CutPrefix.f a0 a1).bind fun bt403 => (some (bt403.1, bt403.2))) = some (r1, r2) := h
 clear h
 replace H := Option.bind_eq_some_iff.mp H
 obtain ⟨⟨t403, t404⟩, A30, H⟩ := H
 replace H : (some (t403, t404)) = some (r1, r2) := H
 have A3 := Aside0.mk A30
 clear A30
 simp only [Option.some.injEq, Prod.mk.injEq] at H
 obtain ⟨rfl, rfl⟩ := H
 go_enter Tryd.func52, Tryd.ntmps52
 go_wp2_with (first | ((with_reducible refine gate_callee (f := 72) rfl ?_); refine goesL_ (some 8) rfl rfl Tryd.func72 (by kernel_rfl) rfl #[.string a0, .string a1] rfl (by (try simp only [List.map_toArray, List.map_cons, List.map_nil]); first | done | rfl | (simp only [List.length_drop, List.length_take]; rfl)) ?_; (with_reducible refine (stringslite_CutPrefix.calls a0 a1 t403 t404 _ A3.out).mono ?_); rintro e w' ⟨rfl, ⟨nd, rfl⟩⟩; refine ⟨_, rfl, ?_⟩))
 go_ret2
 exact ⟨by first | rfl | (simp; done) | (simp [*]; done), by repeat (first | exact Drawn0.refl _ | apply Drawn0.step)⟩
end Go.Proofs.YtpklfaglenkdaaaDoor.Pr
end
section
namespace Go.Proofs.YtpklfaglenkdaaaDoor.Pr
open Go.RowKit Go.Proofs.YtpklfaglenkdaaaDoorW.PrintWords Go.Proofs.YtpklfaglenkdaaaDoorW.PrintLast Go.Proofs.YtpklfaglenkdaaaDoorW.PrintMore
attribute [local go_sem] max2_int min2_int max_two min_two max_three min_three max_four min_four   
def mark_read.f (a0 : ByteArray) : Option (ByteArray) := (strings_CutPrefix.f a0 (⟨#[92]⟩ : ByteArray)).bind fun bt405 => (if bt405.2 = true then ((strings_TrimLeft.f bt405.1 (⟨#[92]⟩ : ByteArray)).bind fun t407 => ((mark_mark.f t407).bind fun t408 => (if t408 ≥ 0 then (some bt405.1) else (some a0)))) else (some a0))
set_option maxHeartbeats 8000000 in
set_option maxRecDepth 100000 in
theorem mark_read.calls (a0 : ByteArray) (r : ByteArray) (w : World) (h : mark_read.f a0 = some r) :
  Calls Tryd.prog 36 #[.string a0] w fun e w' => e = .returned (.string r) ∧ Below w.heap.size w w' := by
 have HB := Aside0.mk (Below.refl w.heap.size w)
 have H : ((strings_CutPrefix.f a0 (⟨#[92]⟩ : ByteArray)).bind fun bt405 => (if bt405.2 = true then ((strings_TrimLeft.f bt405.1 (⟨#[92]⟩ : ByteArray)).bind fun t407 => ((mark_mark.f t407).bind fun t408 => (if t408 ≥ 0 then (some bt405.1) else (some a0)))) else (some a0))) = some r := h
 clear h
 replace H := Option.bind_eq_some_iff.mp H
 obtain ⟨⟨t405, t406⟩, A20, H⟩ := H
 replace H : (if t406 = true then ((strings_TrimLeft.f t405 (⟨#[92]⟩ : ByteArray)).bind fun t407 => ((mark_mark.f t407).bind fun t408 => (if t408 ≥ 0 then (some t405) else (some a0)))) else (some a0)) = some r := H
 have A2 := Aside0.mk A20
 clear A20
 by_cases c3 : t406 = true
 ·subst c3
  have H1 : ((strings_TrimLeft.f t405 (⟨#[92]⟩ : ByteArray)).bind fun t407 => ((mark_mark.f t407).bind fun t408 => (if t408 ≥ 0 then (some t405) else (some a0)))) = some r := by rw [if_pos rfl] at H; exact H
  clear H
  have H := H1
  clear H1
  replace H := Option.bind_eq_some_iff.mp H
  obtain ⟨t407, A40, H⟩ := H
  replace H : ((mark_mark.f t407).bind fun t408 => (if t408 ≥ 0 then (some t405) else (some a0))) = some r := H
  have A4 := Aside0.mk A40
  clear A40
  replace H := Option.bind_eq_some_iff.mp H
  obtain ⟨t408, A50, H⟩ := H
  replace H : (if t408 ≥ 0 then (some t405) else (some a0)) = some r := H
  have A5 := Aside0.mk A50
  clear A50
  by_cases c6 : t408 ≥ 0
  ·rw [if_pos c6] at H
   have c6b0 : decide (0 ≤ t408) = true := decide_eq_true c6
   clear c6
   obtain rfl := Option.some.inj H
   go_enter Tryd.func36, Tryd.ntmps36
   go_wp2_with (first | ((with_reducible refine gate_callee (f := 52) rfl ?_); refine goesL_ (some 7) rfl rfl Tryd.func52 (by kernel_rfl) rfl #[.string a0, .string (⟨#[92]⟩ : ByteArray)] rfl (by (try simp only [List.map_toArray, List.map_cons, List.map_nil]); first | done | rfl | (simp only [List.length_drop, List.length_take]; rfl)) ?_; (with_reducible refine (strings_CutPrefix.calls a0 (⟨#[92]⟩ : ByteArray) t405 true _ A2.out).mono ?_); rintro e w' ⟨rfl, ⟨nd, rfl⟩⟩; refine ⟨_, rfl, ?_⟩) | (go_at_call 49; (with_reducible refine (strings_TrimLeft.calls t405 (⟨#[92]⟩ : ByteArray) t407 _ A4.out).mono ?_); rintro e w' ⟨rfl, ⟨nd, rfl⟩⟩) | (go_at_call 35; (with_reducible refine (mark_mark.calls t407 t408 _ A5.out).mono ?_); rintro e w7 ⟨rfl, hb⟩; have n0_ := Aside0.mk (below_step (by repeat (first | (with_reducible first | exact HB.out | apply below_alloc | apply pw_below_drewN | apply below_drew1) | exact HB.out)) hb); clear HB; have HB := n0_; clear n0_; (try clear hb); (try clear hb2); (try clear hk); (try clear hi)))
   go_ret
   exact ⟨by first | rfl | (simp [errW_none, errW_some] <;> rfl) | (simp [*, errW_none, errW_some] <;> rfl), by repeat (first | (with_reducible first | exact HB.out | apply below_alloc | apply pw_below_drewN | apply below_drew1) | exact HB.out)⟩
  ·rw [if_neg c6] at H
   have c6b0 : decide (0 ≤ t408) = false := decide_eq_false c6
   clear c6
   obtain rfl := Option.some.inj H
   go_enter Tryd.func36, Tryd.ntmps36
   go_wp2_with (first | ((with_reducible refine gate_callee (f := 52) rfl ?_); refine goesL_ (some 7) rfl rfl Tryd.func52 (by kernel_rfl) rfl #[.string a0, .string (⟨#[92]⟩ : ByteArray)] rfl (by (try simp only [List.map_toArray, List.map_cons, List.map_nil]); first | done | rfl | (simp only [List.length_drop, List.length_take]; rfl)) ?_; (with_reducible refine (strings_CutPrefix.calls a0 (⟨#[92]⟩ : ByteArray) t405 true _ A2.out).mono ?_); rintro e w' ⟨rfl, ⟨nd, rfl⟩⟩; refine ⟨_, rfl, ?_⟩) | (go_at_call 49; (with_reducible refine (strings_TrimLeft.calls t405 (⟨#[92]⟩ : ByteArray) t407 _ A4.out).mono ?_); rintro e w' ⟨rfl, ⟨nd, rfl⟩⟩) | (go_at_call 35; (with_reducible refine (mark_mark.calls t407 t408 _ A5.out).mono ?_); rintro e w8 ⟨rfl, hb⟩; have n0_ := Aside0.mk (below_step (by repeat (first | (with_reducible first | exact HB.out | apply below_alloc | apply pw_below_drewN | apply below_drew1) | exact HB.out)) hb); clear HB; have HB := n0_; clear n0_; (try clear hb); (try clear hb2); (try clear hk); (try clear hi)))
   go_ret
   exact ⟨by first | rfl | (simp [errW_none, errW_some] <;> rfl) | (simp [*, errW_none, errW_some] <;> rfl), by repeat (first | (with_reducible first | exact HB.out | apply below_alloc | apply pw_below_drewN | apply below_drew1) | exact HB.out)⟩
 ·replace c3 := Bool.eq_false_iff.mpr c3
  subst c3
  have H1 : (some a0) = some r := by rw [if_neg (show ¬ (false = true) by decide)] at H; exact H
  clear H
  have H := H1
  clear H1
  obtain rfl := Option.some.inj H
  go_enter Tryd.func36, Tryd.ntmps36
  go_wp2_with (first | ((with_reducible refine gate_callee (f := 52) rfl ?_); refine goesL_ (some 7) rfl rfl Tryd.func52 (by kernel_rfl) rfl #[.string a0, .string (⟨#[92]⟩ : ByteArray)] rfl (by (try simp only [List.map_toArray, List.map_cons, List.map_nil]); first | done | rfl | (simp only [List.length_drop, List.length_take]; rfl)) ?_; (with_reducible refine (strings_CutPrefix.calls a0 (⟨#[92]⟩ : ByteArray) t405 false _ A2.out).mono ?_); rintro e w' ⟨rfl, ⟨nd, rfl⟩⟩; refine ⟨_, rfl, ?_⟩))
  go_ret
  exact ⟨by first | rfl | (simp [errW_none, errW_some] <;> rfl) | (simp [*, errW_none, errW_some] <;> rfl), by repeat (first | (with_reducible first | exact HB.out | apply below_alloc | apply pw_below_drewN | apply below_drew1) | exact HB.out)⟩
end Go.Proofs.YtpklfaglenkdaaaDoor.Pr
end
