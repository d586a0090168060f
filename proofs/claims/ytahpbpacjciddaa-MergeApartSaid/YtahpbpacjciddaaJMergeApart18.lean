/- Part 18 of the proof of MergeApart: texts put together. -/
import Derived.Test.YtahpbpacjciddaaJMergeApart9
import Derived.Test.YtahpbpacjciddaaJMergeApart13
import Derived.Test.YtahpbpacjciddaaJMergeApart16
import Derived.Test.YtahpbpacjciddaaJMergeApart17
namespace Go.Proofs.Ytahpbpacjciddaa.Pr
open Go.RowKit Go.Proofs.YtahpbpacjciddaaW.PrintWords Go.Proofs.YtahpbpacjciddaaW.PrintLast Go.Proofs.YtahpbpacjciddaaW.PrintMore
set_option linter.unusedVariables false
set_option linter.unusedSimpArgs false
def tlp (n : Nat) (A1 A2 : List Bool) (j : Nat) : Bool := decide (j < n) && (A1.getD j false || A2.getD j false)
def toE (n : Nat) (A1 A2 : List Bool) : Nat → Nat → Nat
  | 0, j => j
  | d + 1, j => if tlp n A1 A2 j = true then toE n A1 A2 d (j + 1) else j
def rlp (n : Nat) (A1 B1 A2 B2 : List Bool) (fr j : Nat) : Bool := decide (j < n) && (!A1.getD j false && (!A2.getD j false && (decide (j = fr) || (!B1.getD j false && !B2.getD j false))))
def runE (n : Nat) (A1 B1 A2 B2 : List Bool) (fr : Nat) : Nat → Nat → Nat
  | 0, j => j
  | d + 1, j => if rlp n A1 B1 A2 B2 fr j = true then runE n A1 B1 A2 B2 fr d (j + 1) else j
def rstop (n : Nat) (B1 B2 : List Bool) (fr j : Nat) : Bool := decide (j = n) && (decide (fr = j) || (!B1.getD j false && !B2.getD j false))
def rgap (i t : Nat) (p q : List ByteArray) : Bool := decide (i < t) || (decide (0 < p.length) || decide (0 < q.length))
def rgapP (k : Nat) (a : List ByteArray) (i t : Nat) (p q : List ByteArray) (out : List S34) : Option (List S34) :=
  if rgap i t p q = true then (sidingref18_Kind.f k (segL a i t) p q).bind fun kd => some (out ++ [⟨kd, segL a i t, p, q⟩]) else some out
def runP (a : List ByteArray) (t u : Nat) : List S34 := if t < u then [⟨1, segL a t u, segL a t u, segL a t u⟩] else []
def rgo (k : Nat) (a : List ByteArray) (x y : List S82) (A1 B1 A2 B2 : List Bool) : Nat → Nat → List S34 → Option (List S34)
  | 0, _, _ => none
  | f + 1, i, out =>
    (sidingref18_part.f k a x (i : Int) ((toE a.length A1 A2 (a.length - i) i : Nat) : Int)).bind fun p =>
      (sidingref18_part.f k a y (i : Int) ((toE a.length A1 A2 (a.length - i) i : Nat) : Int)).bind fun q =>
        (rgapP k a i (toE a.length A1 A2 (a.length - i) i) p q out).bind fun o1 =>
          if rstop a.length B1 B2 (toE a.length A1 A2 (a.length - i) i) (runE a.length A1 B1 A2 B2 (toE a.length A1 A2 (a.length - i) i) (a.length - toE a.length A1 A2 (a.length - i) i) (toE a.length A1 A2 (a.length - i) i)) = true
          then some (o1 ++ runP a (toE a.length A1 A2 (a.length - i) i) (runE a.length A1 B1 A2 B2 (toE a.length A1 A2 (a.length - i) i) (a.length - toE a.length A1 A2 (a.length - i) i) (toE a.length A1 A2 (a.length - i) i)))
          else rgo k a x y A1 B1 A2 B2 f (runE a.length A1 B1 A2 B2 (toE a.length A1 A2 (a.length - i) i) (a.length - toE a.length A1 A2 (a.length - i) i) (toE a.length A1 A2 (a.length - i) i))
            (o1 ++ runP a (toE a.length A1 A2 (a.length - i) i) (runE a.length A1 B1 A2 B2 (toE a.length A1 A2 (a.length - i) i) (a.length - toE a.length A1 A2 (a.length - i) i) (toE a.length A1 A2 (a.length - i) i)))
def rm4 (k : Nat) (a : List ByteArray) (x y : List S82) (s t : List Bool × List Bool) : Option (List S34 × Int) :=
  if s.1.length = a.length ∧ s.2.length = a.length + 1 ∧ t.1.length = a.length ∧ t.2.length = a.length + 1 ∧ a.length ≤ 400000 then (rgo k a x y s.1 s.2 t.1 t.2 (a.length + 2) 0 []).bind fun o => some (o, 0) else none
def rm3 (k : Nat) (l0 l1 l2 : List ByteArray) : Option (List S34 × Int) := (ref15_Diff.f k l0 l1).bind fun x => (ref15_Diff.f k l0 l2).bind fun y => (sidingref18_touched.f k (l0.length : Int) x.1).bind fun s => (sidingref18_touched.f k (l0.length : Int) y.1).bind fun t => rm4 k l0 x.1 y.1 s t
def rm2 (k : Nat) (l0 l1 l2 : List ByteArray) : Option (List S34 × Int) := (sidingref13_Lines.f k l2).bind fun e => if e = 0 then rm3 k l0 l1 l2 else some ([], e)
def rm1 (k : Nat) (l0 l1 l2 : List ByteArray) : Option (List S34 × Int) := (sidingref13_Lines.f k l1).bind fun e => if e = 0 then rm2 k l0 l1 l2 else some ([], e)
def ref18_Merge.f (k : Nat) (l0 l1 l2 : List ByteArray) : Option (List S34 × Int) := (sidingref13_Lines.f k l0).bind fun e => if e = 0 then rm1 k l0 l1 l2 else some ([], e)
theorem bool_cell {w : World} {ad : Addr} {n : Nat} {xs : List Bool} (h : Kd.C Kd.bool w (some ad) n xs) (i : Nat) (hi : i < n) : w.cell? (ad.add i) = some (.bool (xs.getD i false)) := by
  obtain ⟨ad', e, hc⟩ := Kd.at_bool h (i : Int) (by omega) (by omega)
  injection e with e
  subst e
  rw [Int.toNat_natCast] at hc
  rw [hc]
  unfold rdOf
  rw [Int.toNat_natCast]
theorem toE_ge (n : Nat) (A1 A2 : List Bool) : ∀ d j, j ≤ toE n A1 A2 d j
  | 0, j => Nat.le_refl _
  | d + 1, j => by
    unfold toE
    split
    · have := toE_ge n A1 A2 d (j + 1)
      omega
    · omega
theorem toE_le (n : Nat) (A1 A2 : List Bool) : ∀ d j, j ≤ n → toE n A1 A2 d j ≤ n
  | 0, j, h => h
  | d + 1, j, h => by
    unfold toE
    split
    · rename_i hj
      unfold tlp at hj
      simp only [Bool.and_eq_true, decide_eq_true_eq] at hj
      exact toE_le n A1 A2 d (j + 1) hj.1
    · exact h
theorem runE_ge (n : Nat) (A1 B1 A2 B2 : List Bool) (fr : Nat) : ∀ d j, j ≤ runE n A1 B1 A2 B2 fr d j
  | 0, j => Nat.le_refl _
  | d + 1, j => by
    unfold runE
    split
    · have := runE_ge n A1 B1 A2 B2 fr d (j + 1)
      omega
    · omega
theorem runE_le (n : Nat) (A1 B1 A2 B2 : List Bool) (fr : Nat) : ∀ d j, j ≤ n → runE n A1 B1 A2 B2 fr d j ≤ n
  | 0, j, h => h
  | d + 1, j, h => by
    unfold runE
    split
    · rename_i hj
      unfold rlp at hj
      simp only [Bool.and_eq_true, decide_eq_true_eq] at hj
      exact runE_le n A1 B1 A2 B2 fr d (j + 1) hj.1
    · exact h
theorem rgapP_len {k : Nat} {a : List ByteArray} {i t : Nat} {p q : List ByteArray} {out o1 : List S34} (h : rgapP k a i t p q out = some o1) : o1.length ≤ out.length + 1 := by
  unfold rgapP at h
  split at h
  · obtain ⟨kd, _, h⟩ := Option.bind_eq_some_iff.1 h
    obtain rfl := Option.some.inj h
    simp
  · obtain rfl := Option.some.inj h
    omega
theorem runP_len (a : List ByteArray) (t u : Nat) : (runP a t u).length ≤ 1 := by
  unfold runP
  split <;> simp
abbrev ref18_Merge.Bz0 : Array Bool := #[true, true, true, true, true, true, true, true, true, true, true, true, true, false, true, true, false, false, false, false]
open ref18_Merge in
set_option maxHeartbeats 4000000 in
set_option maxRecDepth 100000 in
theorem ref18_Merge.calls (k : Nat) (A0 : Option Addr) (c0 : Nat) (l0 : List ByteArray) (A1 : Option Addr) (c1 : Nat) (l1 : List ByteArray) (A2 : Option Addr) (c2 : Nat) (l2 : List ByteArray) (r1 : List S34) (r2 : Int) (w : World) (hr0 : Kd.C Kd.string w A0 l0.length l0) (hc0 : l0.length ≤ c0) (hr1 : Kd.C Kd.string w A1 l1.length l1) (hc1 : l1.length ≤ c1) (hr2 : Kd.C Kd.string w A2 l2.length l2) (hc2 : l2.length ≤ c2) (h : ref18_Merge.f k l0 l1 l2 = some (r1, r2)) :
    Calls Try.prog 10 #[.slice A0 l0.length c0, .slice A1 l1.length c1, .slice A2 l2.length c2] w fun e w' => ∃ v0_ : Value, e = .returned (.tuple #[v0_, .int .i64 r2]) ∧ Kd.S k34 34 w' w.heap.size (fun _ => True) v0_ r1 ∧ Below w.heap.size w w' := by
  obtain ⟨e0, hl0, h⟩ := Option.bind_eq_some_iff.1 h
  have HR0 := Aside0.mk hr0
  have HR1 := Aside0.mk hr1
  have HR2 := Aside0.mk hr2
  have HL0 := Aside0.mk hl0
  clear hr0 hr1 hr2 hl0
  go_enter Try.func10, Try.ntmps10
  have HC0 := Aside0.mk (Kd.C_below HR0.out (Below.refl _ _))
  by_cases z0 : e0 = 0
  · subst z0
    rw [if_pos rfl] at h
    obtain ⟨e1, hl1, h⟩ := Option.bind_eq_some_iff.1 h
    have HL1 := Aside0.mk hl1
    clear hl1
    go_upto_region 3 with (go_at_call 17; (with_reducible refine (sidingref13_Lines.calls k A0 c0 l0 0 _ HC0.out hc0 HL0.out).mono ?_); rintro e_ w1 ⟨rfl, hb⟩; have HB0 := Aside0.mk hb; clear hb)
    have HC1 := Aside0.mk (Kd.C_below HR1.out HB0.out)
    by_cases z1 : e1 = 0
    · subst z1
      rw [if_pos rfl] at h
      obtain ⟨e2, hl2, h⟩ := Option.bind_eq_some_iff.1 h
      have HL2 := Aside0.mk hl2
      clear hl2
      go_upto_region 5 with (go_at_call 17; (with_reducible refine (sidingref13_Lines.calls k A1 c1 l1 0 _ HC1.out hc1 HL1.out).mono ?_); rintro e_ w2 ⟨rfl, hb⟩; have HB1 := Aside0.mk (Below.trans HB0.out (Below.mono hb (Below.size HB0.out))); clear hb)
      have HC2 := Aside0.mk (Kd.C_below HR2.out HB1.out)
      by_cases z2 : e2 = 0
      · subst z2
        rw [if_pos rfl] at h
        go_upto_region 7 with (go_at_call 17; (with_reducible refine (sidingref13_Lines.calls k A2 c2 l2 0 _ HC2.out hc2 HL2.out).mono ?_); rintro e_ w3 ⟨rfl, hb⟩; have HB2 := Aside0.mk (Below.trans HB1.out (Below.mono hb (Below.size HB1.out))); clear hb)
        obtain ⟨⟨x, ex⟩, hx, h⟩ := Option.bind_eq_some_iff.1 h
        obtain ⟨⟨y, ey⟩, hy, h⟩ := Option.bind_eq_some_iff.1 h
        obtain ⟨⟨a1, b1⟩, hs, h⟩ := Option.bind_eq_some_iff.1 h
        obtain ⟨⟨a2, b2⟩, ht, h⟩ := Option.bind_eq_some_iff.1 h
        unfold rm4 at h
        split at h
        · rename_i hcond
          obtain ⟨la1, lb1, la2, lb2, hn⟩ := hcond
          obtain ⟨o, hgo, h⟩ := Option.bind_eq_some_iff.1 h
          obtain ⟨rfl, rfl⟩ := Prod.mk.inj (Option.some.inj h)
          clear h
          dsimp only at la1 lb1 la2 lb2 hgo hs ht
          have HX := Aside0.mk hx
          have HY := Aside0.mk hy
          have HS := Aside0.mk hs
          have HT := Aside0.mk ht
          have HGO := Aside0.mk hgo
          have LA1 := Aside0.mk la1
          have LB1 := Aside0.mk lb1
          have LA2 := Aside0.mk la2
          have LB2 := Aside0.mk lb2
          clear hx hy hs ht hgo la1 lb1 la2 lb2 HL0 HL1 HL2 HC0 HC1 HC2
          have S0 := Aside0.mk (Kd.C_below HR0.out HB2.out)
          have S1 := Aside0.mk (Kd.C_below HR1.out HB2.out)
          have S2 := Aside0.mk (Kd.C_below HR2.out HB2.out)
          clear HR0 HR1 HR2
          go_upto_region 8 with (go_at_call 29; (with_reducible refine (ref15_Diff.calls k A0 c0 l0 A1 c1 l1 x ex _ S0.out hc0 S1.out hc1 HX.out).mono ?_); rintro e_ w4 ⟨v8, rfl, hv8, hb4⟩; obtain ⟨AX, cX, rfl⟩ := Kd.S_slice hv8; have V8 := Aside0.mk hv8; have HB4 := Aside0.mk hb4; clear hv8 hb4)
          have P0 := Aside0.mk (Kd.C_below S0.out HB4.out)
          have P2 := Aside0.mk (Kd.C_below S2.out HB4.out)
          go_upto_region 9 with (go_at_call 29; (with_reducible refine (ref15_Diff.calls k A0 c0 l0 A2 c2 l2 y ey _ P0.out hc0 P2.out hc2 HY.out).mono ?_); rintro e_ w5 ⟨v10, rfl, hv10, hb5⟩; obtain ⟨AY, cY, rfl⟩ := Kd.S_slice hv10; have V10 := Aside0.mk hv10; have HB5 := Aside0.mk hb5; clear hv10 hb5)
          have CX5 := Aside0.mk (Kd.C_below (Kd.S_reads' V8.out).2.2 HB5.out)
          have LX := Aside0.mk (Kd.S_reads' V8.out).2.1
          have LY := Aside0.mk (Kd.S_reads' V10.out).2.1
          have CY5 := Aside0.mk (Kd.S_reads' V10.out).2.2
          have Q0 := Aside0.mk (Kd.C_below P0.out HB5.out)
          have HB25 := Aside0.mk (Below.trans HB2.out (Below.mono (Below.trans HB4.out (Below.mono HB5.out (Below.size HB4.out))) (Below.size HB2.out)))
          clear V8 V10 P0 P2 S0 S1 S2 HX HY
          go_upto_region 10 with (go_at_call 30; (with_reducible refine (sidingref18_touched.calls k (l0.length : Int) AX cX x a1 b1 _ CX5.out LX.out HS.out).mono ?_); rintro e_ w6 ⟨v12, v13, rfl, hv12, hv13, hb6⟩; obtain ⟨AA1, cA1, rfl⟩ := Kd.R_slice hv12; obtain ⟨AB1, cB1, rfl⟩ := Kd.R_slice hv13; have V12 := Aside0.mk hv12; have V13 := Aside0.mk hv13; have HB6 := Aside0.mk hb6; clear hv12 hv13 hb6)
          have CY6 := Aside0.mk (Kd.C_below CY5.out HB6.out)
          go_upto_region 11 with (go_at_call 30; (with_reducible refine (sidingref18_touched.calls k (l0.length : Int) AY cY y a2 b2 _ CY6.out LY.out HT.out).mono ?_); rintro e_ w7 ⟨v14, v15, rfl, hv14, hv15, hb7⟩; obtain ⟨AA2, cA2, rfl⟩ := Kd.R_slice hv14; obtain ⟨AB2, cB2, rfl⟩ := Kd.R_slice hv15; have V14 := Aside0.mk hv14; have V15 := Aside0.mk hv15; have HB7 := Aside0.mk hb7; clear hv14 hv15 hb7)
          have HB57 := Aside0.mk (Below.trans HB6.out (Below.mono HB7.out (Below.size HB6.out)))
          have CX := Aside0.mk (Kd.C_below CX5.out HB57.out)
          have CY := Aside0.mk (Kd.C_below CY5.out HB57.out)
          have C0 := Aside0.mk (Kd.C_below Q0.out HB57.out)
          obtain ⟨n1, hn1⟩ : ∃ n1, n1 = l0.length + 1 := ⟨_, rfl⟩
          have CA1 : Kd.C Kd.bool w7 AA1 l0.length a1 := by have h := Kd.C_below (Kd.R_reads' V12.out).2.2 HB7.out; rwa [LA1.out] at h
          have CB1 : Kd.C Kd.bool w7 AB1 n1 b1 := by have h := Kd.C_below (Kd.R_reads' V13.out).2.2 HB7.out; rwa [LB1.out, ← hn1] at h
          have CA2 : Kd.C Kd.bool w7 AA2 l0.length a2 := by have h := (Kd.R_reads' V14.out).2.2; rwa [LA2.out] at h
          have CB2 : Kd.C Kd.bool w7 AB2 n1 b2 := by have h := (Kd.R_reads' V15.out).2.2; rwa [LB2.out, ← hn1] at h
          have hB07 := Below.trans HB25.out (Below.mono HB57.out (Below.size HB25.out))
          have HB07 := Aside0.mk hB07
          clear hB07
          have la1 := LA1.out
          have lb1 := LB1.out
          have la2 := LA2.out
          have lb2 := LB2.out
          rw [← hn1] at lb1 lb2
          simp only [la1, lb1, la2, lb2]
          obtain ⟨ad1, e1, _⟩ := Kd.at_bool CB1 0 (by omega) (by omega)
          obtain ⟨ad2, e2, _⟩ := Kd.at_bool CB2 0 (by omega) (by omega)
          subst e1
          subst e2
          have HN1 := Aside0.mk hn1
          clear la1 lb1 la2 lb2 hn1 LA1 LB1 LA2 LB2 V12 V13 V14 V15 HB57 HB25 HB6 HB7 HB5 HB4 CX5 CY5 CY6 Q0 HS HT HB0 HB1 HB2
          have CA1 := Aside0.mk CA1
          have CA2 := Aside0.mk CA2
          have CB1 := Aside0.mk CB1
          have CB2 := Aside0.mk CB2
          go_upto_block 0 with fail
          go_cut [16] (fun v16 wz => (∃ (A : Option Addr) (c : Nat), v16 = .slice A o.length c) ∧ Aside0 (Kd.S k34 34 wz w7.heap.size (fun _ => True) v16 o) ∧ Aside0 (Below w7.heap.size w7 wz))
          case first =>
           as_aux_lemma =>
            go_wp2_with fail
            go_loopg [16, 17] (l0.length + 2) (fun nq v16 v17 wr => ∃ (f i : Nat) (out : List S34), f = nq ∧ v17 = .int .i64 (i : Int) ∧ i ≤ l0.length ∧ Aside0 (rgo k l0 x y a1 b1 a2 b2 f i out = some o) ∧ out.length + 2 * f ≤ 2 * (l0.length + 2) ∧ (∃ (A : Option Addr) (c : Nat), v16 = .slice A out.length c) ∧ Aside0 (Kd.S k34 34 wr w7.heap.size (fun _ => True) v16 out) ∧ Aside0 (Below w7.heap.size w7 wr))
            case atStart => exact ⟨_, 0, [], rfl, rfl, by omega, HGO, by simp, ⟨none, 0, rfl⟩, ⟨Kd.S_nil _ _ _ _ _⟩, ⟨Below.refl _ _⟩⟩
            case round =>
             as_aux_lemma =>
              clear HGO
              obtain ⟨f, i, out, rfl, rfl, hi, HG, hol, ⟨AO, cO, rfl⟩, HSO, HBL⟩ := hrel
              obtain ⟨f', rfl⟩ : ∃ f', f = f' + 1 := by
                cases f with
                | zero => exact absurd HG.out (by simp [rgo])
                | succ f => exact ⟨f, rfl⟩
              have hg := HG.out
              unfold rgo at hg
              obtain ⟨T, hT⟩ : ∃ T, T = toE l0.length a1 a2 (l0.length - i) i := ⟨_, rfl⟩
              rw [← hT] at hg
              obtain ⟨U, hU⟩ : ∃ U, U = runE l0.length a1 b1 a2 b2 T (l0.length - T) T := ⟨_, rfl⟩
              rw [← hU] at hg
              obtain ⟨p, hp, hg⟩ := Option.bind_eq_some_iff.1 hg
              obtain ⟨q, hq, hg⟩ := Option.bind_eq_some_iff.1 hg
              obtain ⟨o1, ho1, hg⟩ := Option.bind_eq_some_iff.1 hg
              have hT1 := toE_ge l0.length a1 a2 (l0.length - i) i
              have hT2 := toE_le l0.length a1 a2 (l0.length - i) i hi
              rw [← hT] at hT1 hT2
              have hU1 := runE_ge l0.length a1 b1 a2 b2 T (l0.length - T) T
              have hU2 := runE_le l0.length a1 b1 a2 b2 T (l0.length - T) T hT2
              rw [← hU] at hU1 hU2
              have hol1 : o1.length ≤ out.length + 1 := rgapP_len ho1
              have HTE := Aside0.mk hT
              have HUE := Aside0.mk hU
              have HP := Aside0.mk hp
              have HQ := Aside0.mk hq
              have HO1 := Aside0.mk ho1
              have HG1 := Aside0.mk hg
              have q1 : decide ((i : Int) ≤ (l0.length : Int)) = true := decide_eq_true (by omega)
              clear hT hU hp hq ho1 hg HG
              go_upto_block 2 with fail
              go_cut [18] (fun v18 wc => v18 = .int .i64 (T : Int) ∧ wc = wr)
              case first =>
               as_aux_lemma =>
                go_wp2_with fail
                go_loopg [18] (l0.length - i) (fun nq2 v18 w8 => ∃ d j : Nat, v18 = .int .i64 (j : Int) ∧ d = nq2 ∧ j + d = l0.length ∧ i ≤ j ∧ Aside0 (toE l0.length a1 a2 d j = T) ∧ w8 = wr)
                case atStart => exact ⟨_, i, rfl, rfl, by omega, by omega, ⟨HTE.out.symm⟩, rfl⟩
                case round =>
                 as_aux_lemma =>
                  obtain ⟨d, j, rfl, rfl, hjd, hij, HE, rfl⟩ := hrel
                  go_upto_region 15 with fail
                  go_cut [84] (fun s84 wz => s84 = .bool (tlp l0.length a1 a2 j) ∧ wz = wr)
                  case first =>
                   as_aux_lemma =>
                    by_cases z1 : j < l0.length
                    · have z1b : decide ((j : Int) < (l0.length : Int)) = true := decide_eq_true (by omega)
                      have z1c : decide (j < l0.length) = true := decide_eq_true z1
                      have HV := Aside0.mk (show tlp l0.length a1 a2 j = (a1.getD j false || a2.getD j false) by unfold tlp; rw [z1c]; rfl)
                      obtain ⟨adA, rfl, _⟩ := Kd.at_bool CA1.out (j : Int) (by omega) (by omega)
                      obtain ⟨adB, rfl, _⟩ := Kd.at_bool CA2.out (j : Int) (by omega) (by omega)
                      have k1 := bool_cell (Kd.C_below CA1.out HBL.out) j z1
                      have k2 := bool_cell (Kd.C_below CA2.out HBL.out) j z1
                      obtain ⟨u1, hu1⟩ : ∃ u, u = a1.getD j false := ⟨_, rfl⟩
                      obtain ⟨u2, hu2⟩ : ∃ u, u = a2.getD j false := ⟨_, rfl⟩
                      have HW := Aside0.mk (show tlp l0.length a1 a2 j = (u1 || u2) by rw [HV.out, hu1, hu2])
                      rw [← hu1] at k1
                      rw [← hu2] at k2
                      clear hu1 hu2 HV
                      cases u1 with
                      | true =>
                        go_wp2
                        go_meet
                        exact ⟨congrArg Value.bool HW.out.symm, rfl⟩
                      | false =>
                        go_wp2
                        go_meet
                        exact ⟨congrArg Value.bool HW.out.symm, rfl⟩
                    · have z1b : decide ((j : Int) < (l0.length : Int)) = false := decide_eq_false (by omega)
                      have HV := Aside0.mk (show tlp l0.length a1 a2 j = false by unfold tlp; rw [decide_eq_false z1]; rfl)
                      go_wp2
                      go_meet
                      exact ⟨congrArg Value.bool HV.out.symm, rfl⟩
                  case rest =>
                   as_aux_lemma =>
                    obtain ⟨rfl, hwc⟩ := hcut
                    subst wc
                    cases hq : tlp l0.length a1 a2 j with
                    | true =>
                      have hlt : j < l0.length := by
                        unfold tlp at hq
                        simp only [Bool.and_eq_true, decide_eq_true_eq] at hq
                        exact hq.1
                      obtain ⟨d', rfl⟩ : ∃ d', d = d' + 1 := ⟨d - 1, by omega⟩
                      have HE' := Aside0.mk (show toE l0.length a1 a2 d' (j + 1) = T by have h := HE.out; unfold toE at h; rwa [if_pos hq] at h)
                      clear HE hq
                      go_wp2
                      go_roundg d'
                      case measure => omega
                      case rel => exact ⟨d', j + 1, by go_num, rfl, by omega, by omega, HE', rfl⟩
                    | false =>
                      have HE' := Aside0.mk (show j = T by
                        have h := HE.out
                        cases d with
                        | zero => exact h
                        | succ d => unfold toE at h; rwa [if_neg (by rw [hq]; exact Bool.false_ne_true)] at h)
                      clear HE hq
                      go_wp2
                      go_meet
                      exact ⟨by rw [HE'.out], rfl⟩
              case rest =>
               as_aux_lemma =>
                obtain ⟨rfl, hwc⟩ := hcut
                subst wc
                have PC0 := Aside0.mk (Kd.C_below C0.out HBL.out)
                have PCX := Aside0.mk (Kd.C_below CX.out HBL.out)
                go_upto_region 18 with (first
                  | (go_at_call 31; (with_reducible refine (sidingref18_part.calls k A0 c0 l0 AX cX x (i : Int) (T : Int) p _ PC0.out hc0 PCX.out LX.out HP.out).mono ?_); rintro e_ w8 ⟨v91, rfl, hv91, hb8⟩; obtain ⟨AP, cP, rfl⟩ := Kd.R_slice hv91; have V91 := Aside0.mk hv91; have HB8 := Aside0.mk hb8; clear hv91 hb8; have PC8 := Aside0.mk (Kd.C_below PC0.out HB8.out); have PY8 := Aside0.mk (Kd.C_below (Kd.C_below CY.out HBL.out) HB8.out))
                  | (go_at_call 31; (with_reducible refine (sidingref18_part.calls k A0 c0 l0 AY cY y (i : Int) (T : Int) q _ PC8.out hc0 PY8.out LY.out HQ.out).mono ?_); rintro e_ w9 ⟨v96, rfl, hv96, hb9⟩; obtain ⟨AQ, cQ, rfl⟩ := Kd.R_slice hv96; have V96 := Aside0.mk hv96; have HB9 := Aside0.mk hb9; clear hv96 hb9))
                have V91' := Aside0.mk (Kd.R_below V91.out HB9.out)
                have Z8 := Aside0.mk (show wr.heap.size ≤ w8.heap.size from Below.size HB8.out)
                have HBr9 := Aside0.mk (Below.trans HB8.out (Below.mono HB9.out (Below.size HB8.out)))
                clear V91 HB8 HB9 PC8 PY8 PC0 PCX HP HQ
                go_cut [109] (fun s109 wz => s109 = .bool (rgap i T p q) ∧ wz = w9)
                case first =>
                 as_aux_lemma =>
                  have HV := Aside0.mk (show rgap i T p q = (decide (i < T) || (decide (0 < p.length) || decide (0 < q.length))) from rfl)
                  by_cases z1 : i < T
                  · have z1b : decide ((T : Int) > (i : Int)) = true := decide_eq_true (by omega)
                    have z1d : decide ((i : Int) < (T : Int)) = true := decide_eq_true (by omega)
                    have HW := Aside0.mk (show rgap i T p q = true by rw [HV.out, decide_eq_true z1]; rfl)
                    go_wp2
                    go_meet
                    exact ⟨congrArg Value.bool HW.out.symm, rfl⟩
                  · have z1b : decide ((T : Int) > (i : Int)) = false := decide_eq_false (by omega)
                    have z1d : decide ((i : Int) < (T : Int)) = false := decide_eq_false (by omega)
                    by_cases z2 : 0 < p.length
                    · have z2b : decide ((p.length : Int) > 0) = true := decide_eq_true (by omega)
                      have z2d : decide (0 < (p.length : Int)) = true := decide_eq_true (by omega)
                      have HW := Aside0.mk (show rgap i T p q = true by rw [HV.out, decide_eq_true z2]; simp)
                      go_wp2
                      go_meet
                      exact ⟨congrArg Value.bool HW.out.symm, rfl⟩
                    · have z2b : decide ((p.length : Int) > 0) = false := decide_eq_false (by omega)
                      have z2d : decide (0 < (p.length : Int)) = false := decide_eq_false (by omega)
                      by_cases z3 : 0 < q.length
                      · have z3b : decide ((q.length : Int) > 0) = true := decide_eq_true (by omega)
                        have z3d : decide (0 < (q.length : Int)) = true := decide_eq_true (by omega)
                        have HW := Aside0.mk (show rgap i T p q = true by rw [HV.out, decide_eq_true z3]; simp)
                        go_wp2
                        go_meet
                        exact ⟨congrArg Value.bool HW.out.symm, rfl⟩
                      · have z3b : decide ((q.length : Int) > 0) = false := decide_eq_false (by omega)
                        have z3d : decide (0 < (q.length : Int)) = false := decide_eq_false (by omega)
                        have HW := Aside0.mk (show rgap i T p q = false by rw [HV.out, decide_eq_false z1, decide_eq_false z2, decide_eq_false z3]; rfl)
                        go_wp2
                        go_meet
                        exact ⟨congrArg Value.bool HW.out.symm, rfl⟩
                case rest =>
                 as_aux_lemma =>
                  obtain ⟨rfl, hwc⟩ := hcut
                  subst wc
                  go_upto_if 109 with fail
                  go_cut [16] (fun v16 wz => (∃ (A : Option Addr) (c : Nat), v16 = .slice A o1.length c) ∧ Aside0 (Kd.S k34 34 wz w7.heap.size (fun _ => True) v16 o1) ∧ Aside0 (Below w7.heap.size w7 wz))
                  case first =>
                   as_aux_lemma =>
                    cases hgap : rgap i T p q with
                    | false =>
                      have h1 := HO1.out
                      unfold rgapP at h1
                      rw [if_neg (by rw [hgap]; exact Bool.false_ne_true)] at h1
                      obtain rfl := Option.some.inj h1
                      clear h1
                      go_wp2
                      go_meet
                      exact ⟨⟨AO, cO, rfl⟩, ⟨Kd.S_mono (Kd.S_below (Kd.S_bound HSO.out) HBr9.out) (fun _ _ => trivial)⟩, ⟨Below.trans HBL.out (Below.mono HBr9.out (Below.size HBL.out))⟩⟩
                    | true =>
                      have h1 := HO1.out
                      unfold rgapP at h1
                      rw [if_pos hgap] at h1
                      obtain ⟨s, es⟩ : ∃ s, s = segL l0 i T := ⟨_, rfl⟩
                      rw [← es] at h1
                      obtain ⟨kd, hkd, h1⟩ := Option.bind_eq_some_iff.1 h1
                      obtain rfl := Option.some.inj h1
                      obtain ⟨AS, hsl, hsm, hdS⟩ := str_mid A0 c0 l0 i T hT1 hT2 hc0
                      have HSL := Aside0.mk (show s.length ≤ 1000000 by rw [es]; unfold segL; rw [List.length_drop, List.length_take]; omega)
                      rw [show (l0.take T).drop i = s from es.symm] at hsl hsm hdS
                      obtain ⟨dS, edS⟩ : ∃ d, d = c0 - i := ⟨_, rfl⟩
                      rw [← edS] at hsl hdS
                      have hC9 := Kd.C_below (Kd.C_below C0.out HBL.out) HBr9.out
                      have CS := Aside0.mk (hsm _ hC9)
                      have HKD := Aside0.mk hkd
                      have HDS := Aside0.mk hdS
                      have PK := Aside0.mk (fun X (hX : Below w9.heap.size w9 X) => sidingref18_Kind.calls k AS dS s AP cP p AQ cQ q kd X (Kd.C_below CS.out hX) HDS.out (Kd.C_below (Kd.R_reads' V91'.out).2.2 hX) (Kd.R_reads' V91'.out).2.1 (Kd.C_below (Kd.R_reads' V96.out).2.2 hX) (Kd.R_reads' V96.out).2.1 HKD.out)
                      have Z9 := Aside0.mk (show wr.heap.size ≤ w9.heap.size from Below.size HBr9.out)
                      have Z7 := Aside0.mk (show w7.heap.size ≤ wr.heap.size from Below.size HBL.out)
                      have MK := Aside0.mk (show ∀ (X : World) (A : Option Addr) (c : Nat), Kd.R Kd.string 9 X w9.heap.size (fun _ => True) (.slice A s.length c) s → Below w9.heap.size w9 X → k34.M X w7.heap.size (fun k => wr.heap.size ≤ k) ⟨kd, s, p, q⟩ [.int .u8 kd, .slice A s.length c, .slice AP p.length cP, .slice AQ q.length cQ] from fun X A c hv hX =>
                        k34_mkM _ _ _ ⟨kd, s, p, q⟩ (Kd.R_mono (cut_rowM hv (by have := Z7.out; have := Z9.out; omega)) (fun k hk => Nat.le_trans Z9.out hk)) (cut_rowM (Kd.R_mono (Kd.R_below (Kd.R_bound V91'.out) hX) (fun _ _ => trivial)) Z7.out) (Kd.R_mono (cut_rowM (Kd.R_mono (Kd.R_below (Kd.R_bound V96.out) hX) (fun _ _ => trivial)) (by have := Z7.out; have := Z8.out; omega)) (fun k hk => Nat.le_trans Z8.out hk)))
                      have MS := Aside0.mk (show ∀ X : World, Below w9.heap.size w9 X → Kd.S k34 34 X w7.heap.size (fun k => True ∧ ¬ wr.heap.size ≤ k) (.slice AO out.length cO) out from fun X hX => Kd.S_mono (Kd.S_below (Kd.S_bound HSO.out) (Below.trans HBr9.out (Below.mono hX Z9.out))) (fun k hk => ⟨trivial, by have := hk.2.2.1; omega⟩))
                      have MB := Aside0.mk (show ∀ X : World, Below w9.heap.size w9 X → Below w7.heap.size w7 X from fun X hX => Below.trans HBL.out (Below.mono (Below.trans HBr9.out (Below.mono hX Z9.out)) Z7.out))
                      have MZ := Aside0.mk (show ∀ X : World, Below w9.heap.size w9 X → w7.heap.size ≤ X.heap.size from fun X hX => by have := Below.size hX; have := Z7.out; have := Z9.out; omega)
                      have HLN := Aside0.mk (show (out.length + 1) * 80 ≤ 140737488355328 by omega)
                      clear hgap h1 hkd es edS hsm hdS hC9 HKD V91' V96 HTE HUE HG1 HO1 q1
                      go_upto_region 19 with fail
                      refine start_ (n := 20) (S := fun w' => True) (ds := []) #[false, false, false, false, false, false, false, false, false, false, false, false, false, false, false, false, false, false, false, false] (by kernel_rfl) rfl rfl trivial (fun hHeld => ?_)
                      refine pure_ (i := 0) (N := some 110) (v := ?_) (a' := ?_) #[true, false, false, false, false, false, false, false, false, false, false, false, false, false, false, false, false, false, false, false] rfl rfl (by kernel_rfl) (fun _ _ _ h => h) (Or.inl ⟨by rfl, ?_⟩) ?_ ?_; rotate_left; (focus intro w'; go_simp; with_reducible rfl); rotate_left; (focus go_simp; rfl)
                      refine pure_ (i := 1) (N := some 111) (v := ?_) (a' := ?_) #[true, true, false, false, false, false, false, false, false, false, false, false, false, false, false, false, false, false, false, false] rfl rfl (by kernel_rfl) (fun _ _ _ h => h) (Or.inl ⟨by rfl, ?_⟩) ?_ ?_; rotate_left; (focus intro w'; go_simp; with_reducible rfl); rotate_left; (focus go_simp; rfl)
                      refine pure_ (i := 2) (N := some 112) (v := ?_) (a' := ?_) #[true, true, true, false, false, false, false, false, false, false, false, false, false, false, false, false, false, false, false, false] rfl rfl (by kernel_rfl) (fun _ _ _ h => h) (Or.inl ⟨by rfl, ?_⟩) ?_ ?_; rotate_left; (focus intro w'; go_simp; with_reducible rfl); rotate_left; (focus go_simp; rfl)
                      refine pure_ (i := 3) (N := some 113) (v := ?_) (a' := ?_) #[true, true, true, true, false, false, false, false, false, false, false, false, false, false, false, false, false, false, false, false] rfl rfl (by kernel_rfl) (fun _ _ _ h => h) (Or.inl ⟨by rfl, ?_⟩) ?_ ?_; rotate_left; (focus intro w'; go_simp; with_reducible rfl); rotate_left; (focus go_simp; rfl)
                      refine pure_ (i := 4) (N := some 114) (v := ?_) (a' := ?_) #[true, true, true, true, true, false, false, false, false, false, false, false, false, false, false, false, false, false, false, false] rfl rfl (by kernel_rfl) (fun _ _ _ h => h) (Or.inl ⟨by rfl, ?_⟩) ?_ ?_; rotate_left; (focus intro w'; go_simp; with_reducible rfl); rotate_left; (focus go_simp; rfl)
                      refine pure_ (i := 5) (N := some 115) (v := ?_) (a' := ?_) #[true, true, true, true, true, true, false, false, false, false, false, false, false, false, false, false, false, false, false, false] rfl rfl (by kernel_rfl) (fun _ _ _ h => h) (Or.inl ⟨by rfl, ?_⟩) ?_ ?_; rotate_left; (focus intro w'; go_simp; with_reducible rfl); rotate_left; (focus go_simp; rfl)
                      refine pure_ (i := 6) (N := some 116) (v := ?_) (a' := ?_) #[true, true, true, true, true, true, true, false, false, false, false, false, false, false, false, false, false, false, false, false] rfl rfl (by kernel_rfl) (fun _ _ _ h => h) (Or.inl ⟨by rfl, ?_⟩) ?_ ?_; rotate_left; (focus intro w'; go_simp; with_reducible rfl); rotate_left; (focus go_simp; rfl)
                      refine pure_ (i := 9) (N := some 119) (v := ?_) (a' := ?_) #[true, true, true, true, true, true, true, false, false, true, false, false, false, false, false, false, false, false, false, false] rfl rfl (by kernel_rfl) (fun _ _ _ h => h) (Or.inl ⟨by rfl, ?_⟩) ?_ ?_; rotate_left; (focus intro w'; go_simp; with_reducible rfl); rotate_left; (focus go_simp; rfl)
                      refine pure_ (i := 10) (N := some 120) (v := ?_) (a' := ?_) #[true, true, true, true, true, true, true, false, false, true, true, false, false, false, false, false, false, false, false, false] rfl rfl (by kernel_rfl) (fun _ _ _ h => h) (Or.inl ⟨by rfl, ?_⟩) ?_ ?_; rotate_left; (focus intro w'; go_simp; with_reducible rfl); rotate_left; (focus go_simp; rfl)
                      refine pure_ (i := 11) (N := some 121) (v := ?_) (a' := ?_) #[true, true, true, true, true, true, true, false, false, true, true, true, false, false, false, false, false, false, false, false] rfl rfl (by kernel_rfl) (fun _ _ _ h => h) (Or.inl ⟨by rfl, ?_⟩) ?_ ?_; rotate_left; (focus intro w'; go_simp; with_reducible rfl); rotate_left; (focus go_simp; rfl)
                      refine pure_ (i := 12) (N := some 122) (v := ?_) (a' := ?_) #[true, true, true, true, true, true, true, false, false, true, true, true, true, false, false, false, false, false, false, false] rfl rfl (by kernel_rfl) (fun _ _ _ h => h) (Or.inl ⟨by rfl, ?_⟩) ?_ ?_; rotate_left; (focus intro w'; go_simp; with_reducible rfl); rotate_left; (focus go_simp; rfl)
                      refine pure_ (i := 14) (N := some 124) (v := ?_) (a' := ?_) #[true, true, true, true, true, true, true, false, false, true, true, true, true, false, true, false, false, false, false, false] rfl rfl (by kernel_rfl) (fun _ _ _ h => h) (Or.inl ⟨by rfl, ?_⟩) ?_ ?_; rotate_left; (focus intro w'; go_simp; with_reducible rfl); rotate_left; (focus go_simp; rfl)
                      refine pure_ (i := 15) (N := some 125) (v := ?_) (a' := ?_) #[true, true, true, true, true, true, true, false, false, true, true, true, true, false, true, true, false, false, false, false] rfl rfl (by kernel_rfl) (fun _ _ _ h => h) (Or.inl ⟨by rfl, ?_⟩) ?_ ?_; rotate_left; (focus intro w'; go_simp; with_reducible rfl); rotate_left; (focus go_simp; rfl)
                      refine join_ (σ := Value) 5 Bz0 (fun s_ => [(117, .int .u8 kd), (118, s_)]) (fun s_ w' => Kd.R Kd.string 9 w' w9.heap.size (fun _ => True) s_ [] ∧ Below w9.heap.size w9 w') ?_ ?_
                      rotate_left
                      · intro hCont
                        refine two_ (i := 7) (j := 8) (Ni := some 117) (Nj := some 118) #[true, true, true, true, true, true, true, true, false, true, true, true, true, false, true, true, false, false, false, false] #[true, true, true, true, true, true, true, false, true, true, true, true, true, false, true, true, false, false, false, false] rfl rfl rfl rfl (by kernel_rfl) (by decide) (by decide) (fun K hK => ?_) (fun K hK => ?_)
                        · refine goes_ Try.func32 (by kernel_rfl) rfl #[.slice AS s.length dS, .slice AP p.length cP, .slice AQ q.length cQ] (by rfl) rfl rfl (by simp only [List.map_toArray, List.map_cons, List.map_nil]; rfl) ?_
                          with_reducible refine (PK.out _ (below_drew1 (Below.refl _ _))).mono ?_
                          rintro e w' ⟨rfl, ⟨nd, rfl⟩⟩
                          refine ⟨_, rfl, ?_⟩
                          refine hK.out _ _ trivial (fun hHeld => ?_)
                          clear hK K
                          refine norm_ (a' := ?_) ?_ ?_
                          rotate_left
                          · show Act.put _ (some 117) _ = _
                            simp only [Act.put, List.setIfInBounds_toArray, List.set_cons_zero, List.set_cons_succ, i64_w, i32_w]
                            rfl
                          refine one_ (i := 8) (N := some 118) Bz0 rfl rfl (by kernel_rfl) (by decide) (fun K hK => ?_)
                          refine Kd.R_lit_step Kd.string (w0 := w9) w9.heap.size 9 ?hg (N := 118) ?hd (xs := ([] : List ByteArray)) (inner := []) (ok := fun _ => True) (okp := fun _ => True) ?hr ?hp (fun _ hk => hk) trivial (pw_below_drewN (below_drew1 (Below.refl _ _)) _) (Nat.le_refl _) (by simp) ?_; (case hd => rfl); (case hg => rfl); (case hr => first | (go_simp; done) | (go_simp; rfl)); (case hp => exact (Reps.none _ _))
                          intro v1 w1 ho hb _ _
                          refine hK.out _ _ trivial (fun hHeld => ?_)
                          clear hK K
                          refine norm_ (a' := ?_) ?_ ?_
                          rotate_left
                          · show Act.put _ (some 118) _ = _
                            simp only [Act.put, List.setIfInBounds_toArray, List.set_cons_zero, List.set_cons_succ, i64_w, i32_w]
                            rfl
                          exact norm_ (by simp only [putAll, Act.put, List.setIfInBounds_toArray, List.set_cons_zero, List.set_cons_succ]) (hCont v1 _ ⟨ho, hb⟩)
                        · refine Kd.R_lit_step Kd.string (w0 := w9) w9.heap.size 9 ?hg (N := 118) ?hd (xs := ([] : List ByteArray)) (inner := []) (ok := fun _ => True) (okp := fun _ => True) ?hr ?hp (fun _ hk => hk) trivial (below_drew1 (Below.refl _ _)) (Nat.le_refl _) (by simp) ?_; (case hd => rfl); (case hg => rfl); (case hr => first | (go_simp; done) | (go_simp; rfl)); (case hp => exact (Reps.none _ _))
                          intro v1 w1 ho hb _ _
                          refine hK.out _ _ trivial (fun hHeld => ?_)
                          clear hK K
                          refine norm_ (a' := ?_) ?_ ?_
                          rotate_left
                          · show Act.put _ (some 118) _ = _
                            simp only [Act.put, List.setIfInBounds_toArray, List.set_cons_zero, List.set_cons_succ, i64_w, i32_w]
                            rfl
                          refine one_ (i := 7) (N := some 117) Bz0 rfl rfl (by kernel_rfl) (by decide) (fun K hK => ?_)
                          refine goes_ Try.func32 (by kernel_rfl) rfl #[.slice AS s.length dS, .slice AP p.length cP, .slice AQ q.length cQ] (by rfl) rfl rfl (by simp only [List.map_toArray, List.map_cons, List.map_nil]; rfl) ?_
                          with_reducible refine (PK.out _ hb).mono ?_
                          rintro e w' ⟨rfl, ⟨nd, rfl⟩⟩
                          refine ⟨_, rfl, ?_⟩
                          refine hK.out _ _ trivial (fun hHeld => ?_)
                          clear hK K
                          refine norm_ (a' := ?_) ?_ ?_
                          rotate_left
                          · show Act.put _ (some 117) _ = _
                            simp only [Act.put, List.setIfInBounds_toArray, List.set_cons_zero, List.set_cons_succ, i64_w, i32_w]
                            rfl
                          exact norm_ (by simp only [putAll, Act.put, List.setIfInBounds_toArray, List.set_cons_zero, List.set_cons_succ]) (hCont v1 _ ⟨(Kd.R_drewN ho _), (pw_below_drewN hb _)⟩)
                      rintro v1 w1 ⟨ho1, hb1⟩
                      have HV1 := Aside0.mk ho1
                      have HB1 := Aside0.mk hb1
                      clear ho1 hb1
                      refine norm_ (a' := ?_) ?_ ?_
                      rotate_left
                      · simp only [putAll, Act.put, List.setIfInBounds_toArray, List.set_cons_zero, List.set_cons_succ]
                        rfl
                      refine one_ (i := 13) (N := some 123) #[true, true, true, true, true, true, true, true, true, true, true, true, true, true, true, true, false, false, false, false] rfl rfl (by kernel_rfl) (by decide) (fun K hK => ?_)
                      refine Kd.R_append_rows_step Kd.string (w0 := w9) w9.heap.size (by rfl) (.tmp 118) (.tmp 122) 22 9 (.string ⟨#[]⟩) 16 rfl Try.underlying22 info9 rfl (by decide) (by omega) v1 ([] : List ByteArray) s _ _ _ (fun _ => True) (fun _ => False) rfl rfl HV1.out (Kd.C_below CS.out HB1.out) (fun _ _ h => h) (fun _ h => h.elim) (fun _ _ => trivial) HB1.out (Below.size HB1.out) (by have := HSL.out; simp only [List.length_nil]; omega) ?_
                      intro v3 w3 ho3 hb3 _ _
                      rw [List.nil_append] at ho3
                      obtain ⟨A3, c3, rfl⟩ := Kd.R_slice ho3
                      have V3 := Aside0.mk ho3
                      have HB3 := Aside0.mk hb3
                      clear ho3 hb3 HV1 HB1
                      refine hK.out _ _ trivial (fun hHeld => ?_)
                      clear hK K
                      refine norm_ (a' := ?_) ?_ ?_
                      rotate_left
                      · show Act.put _ (some 123) _ = _
                        simp only [Act.put, List.setIfInBounds_toArray, List.set_cons_zero, List.set_cons_succ, i64_w, i32_w]
                        rfl
                      refine pure_ (i := 16) (N := some 126) (v := ?_) (a' := ?_) #[true, true, true, true, true, true, true, true, true, true, true, true, true, true, true, true, true, false, false, false] rfl rfl (by kernel_rfl) (fun _ _ _ h => h) (Or.inl ⟨by rfl, ?_⟩) ?_ ?_; rotate_left; (focus intro w'; go_simp; with_reducible rfl); rotate_left; (focus go_simp; rfl)
                      refine one_ (i := 17) (N := some 127) #[true, true, true, true, true, true, true, true, true, true, true, true, true, true, true, true, true, true, false, false] rfl rfl (by kernel_rfl) (by decide) (fun K hK => ?_)
                      refine value_ (w1 := ?_) (v := ?_) (by rfl) rfl ?_ ?_
                      rotate_left 2
                      · go_simp
                        constructor
                        · rfl
                        · rfl
                      refine hK.out _ _ trivial (fun hHeld => ?_)
                      clear hK K
                      refine norm_ (a' := ?_) ?_ ?_
                      rotate_left
                      · show Act.put _ (some 127) _ = _
                        simp only [Act.put, List.setIfInBounds_toArray, List.set_cons_zero, List.set_cons_succ, i64_w, i32_w]
                        rfl
                      refine one_ (i := 18) (N := some 128) #[true, true, true, true, true, true, true, true, true, true, true, true, true, true, true, true, true, true, true, false] rfl rfl (by kernel_rfl) (by decide) (fun K hK => ?_)
                      refine Kd.S_append_step k34 (w0 := w7) w7.heap.size (by rfl) (.tmp 110) (.tmp 127) 24 34 (.agg #[.int .u8 0, .slice none 0 0, .slice none 0 0, .slice none 0 0]) 80 (by rfl) Try.underlying24 info34 rfl (by decide) (by omega) (.slice AO out.length cO) out ⟨kd, s, p, q⟩ [.int .u8 kd, .slice A3 s.length c3, .slice AP p.length cP, .slice AQ q.length cQ] (fun _ => True) (fun k => wr.heap.size ≤ k) (by rfl) (by rfl) (MK.out w3 A3 c3 V3.out HB3.out) (fun k hk => ⟨trivial, fun he => by have := Kd.S_lt HSO.out k he.symm; omega⟩) (fun _ _ => trivial) (MS.out w3 HB3.out) (MB.out w3 HB3.out) (MZ.out w3 HB3.out) HLN.out ?_
                      intro v5 w5 hs5 hb5 _ _
                      obtain ⟨A5, c5, rfl⟩ := Kd.S_slice hs5
                      have HS5 := Aside0.mk hs5
                      have HB5 := Aside0.mk hb5
                      clear hs5 hb5
                      refine hK.out _ _ trivial (fun hHeld => ?_)
                      clear hK K
                      refine norm_ (a' := ?_) ?_ ?_
                      rotate_left
                      · show Act.put _ (some 128) _ = _
                        simp only [Act.put, List.setIfInBounds_toArray, List.set_cons_zero, List.set_cons_succ, i64_w, i32_w]
                        rfl
                      refine pure_ (i := 19) (N := some 16) (v := ?_) (a' := ?_) #[true, true, true, true, true, true, true, true, true, true, true, true, true, true, true, true, true, true, true, true] rfl rfl (by kernel_rfl) (fun _ _ _ h => h) (Or.inl ⟨by rfl, ?_⟩) ?_ ?_; rotate_left; (focus intro w'; go_simp; with_reducible rfl); rotate_left; (focus go_simp; rfl)
                      refine done_ (by kernel_rfl) ?_
                      go_wp2
                      go_meet
                      have h5 := HS5.out
                      simp only [List.length_append, List.length_cons, List.length_nil, Nat.zero_add] at h5
                      exact ⟨⟨A5, c5, by simp⟩, ⟨h5⟩, HB5⟩
                  case rest =>
                   as_aux_lemma =>
                    obtain ⟨⟨A4, c4, rfl⟩, HS1, HB1⟩ := hcut
                    obtain ⟨W1, rfl⟩ : ∃ W1, W1 = wc := ⟨_, rfl⟩
                    clear HSO HBL HBr9 V91' V96 HO1
                    go_upto_block 4 with fail
                    go_cut [18] (fun v18 wz => v18 = .int .i64 (U : Int) ∧ wz = W1)
                    case first =>
                     as_aux_lemma =>
                      go_wp2_with fail
                      go_loopg [18] (l0.length - T) (fun nq3 v18 w8 => ∃ d j : Nat, v18 = .int .i64 (j : Int) ∧ d = nq3 ∧ j + d = l0.length ∧ T ≤ j ∧ Aside0 (runE l0.length a1 b1 a2 b2 T d j = U) ∧ w8 = W1)
                      case atStart => exact ⟨_, T, rfl, rfl, by omega, by omega, ⟨HUE.out.symm⟩, rfl⟩
                      case round =>
                       as_aux_lemma =>
                        obtain ⟨d, j, rfl, rfl, hjd, hij, HE, hwr⟩ := hrel
                        obtain rfl := hwr.symm
                        go_upto_region 21 with fail
                        go_cut [166] (fun s166 wz => s166 = .bool (rlp l0.length a1 b1 a2 b2 T j) ∧ wz = W1)
                        case first =>
                         as_aux_lemma =>
                          by_cases z1 : j < l0.length
                          · have z1b : decide ((j : Int) < (l0.length : Int)) = true := decide_eq_true (by omega)
                            have z1c : decide (j < l0.length) = true := decide_eq_true z1
                            have z1d : j < n1 := by have := HN1.out; omega
                            have z1e : (j : Int) < (n1 : Int) := by omega
                            have HV := Aside0.mk (show rlp l0.length a1 b1 a2 b2 T j = (!a1.getD j false && (!a2.getD j false && (decide (j = T) || (!b1.getD j false && !b2.getD j false)))) by unfold rlp; rw [z1c]; rfl)
                            obtain ⟨adA, rfl, _⟩ := Kd.at_bool CA1.out (j : Int) (by omega) (by omega)
                            obtain ⟨adB, rfl, _⟩ := Kd.at_bool CA2.out (j : Int) (by omega) (by omega)
                            have k1 := bool_cell (Kd.C_below CA1.out HB1.out) j z1
                            have k2 := bool_cell (Kd.C_below CA2.out HB1.out) j z1
                            have k3 := bool_cell (Kd.C_below CB1.out HB1.out) j z1d
                            have k4 := bool_cell (Kd.C_below CB2.out HB1.out) j z1d
                            obtain ⟨u1, hu1⟩ : ∃ u, u = a1.getD j false := ⟨_, rfl⟩
                            obtain ⟨u2, hu2⟩ : ∃ u, u = a2.getD j false := ⟨_, rfl⟩
                            obtain ⟨u3, hu3⟩ : ∃ u, u = b1.getD j false := ⟨_, rfl⟩
                            obtain ⟨u4, hu4⟩ : ∃ u, u = b2.getD j false := ⟨_, rfl⟩
                            have HW := Aside0.mk (show rlp l0.length a1 b1 a2 b2 T j = (!u1 && (!u2 && (decide (j = T) || (!u3 && !u4)))) by rw [HV.out, hu1, hu2, hu3, hu4])
                            rw [← hu1] at k1
                            rw [← hu2] at k2
                            rw [← hu3] at k3
                            rw [← hu4] at k4
                            clear hu1 hu2 hu3 hu4 HV
                            cases u1 with
                            | true =>
                              go_wp2
                              go_meet
                              exact ⟨congrArg Value.bool HW.out.symm, rfl⟩
                            | false =>
                              cases u2 with
                              | true =>
                                go_wp2
                                go_meet
                                exact ⟨congrArg Value.bool HW.out.symm, rfl⟩
                              | false =>
                                by_cases z2 : j = T
                                · have z2b : ((j : Int) == (T : Int)) = true := beq_iff_eq.2 (by omega)
                                  have HX := Aside0.mk (show rlp l0.length a1 b1 a2 b2 T j = true by rw [HW.out, decide_eq_true z2]; rfl)
                                  clear z2
                                  go_wp2
                                  go_meet
                                  exact ⟨congrArg Value.bool HX.out.symm, rfl⟩
                                · have z2b : ((j : Int) == (T : Int)) = false := beq_eq_false_iff_ne.2 (by omega)
                                  have HX := Aside0.mk (show rlp l0.length a1 b1 a2 b2 T j = (!u3 && !u4) by rw [HW.out, decide_eq_false z2]; rfl)
                                  cases u3 with
                                  | true =>
                                    go_wp2
                                    go_meet
                                    exact ⟨congrArg Value.bool HX.out.symm, rfl⟩
                                  | false =>
                                    go_wp2
                                    go_meet
                                    exact ⟨congrArg Value.bool (by rw [HX.out]; rfl), rfl⟩
                          · have z1b : decide ((j : Int) < (l0.length : Int)) = false := decide_eq_false (by omega)
                            have HV := Aside0.mk (show rlp l0.length a1 b1 a2 b2 T j = false by unfold rlp; rw [decide_eq_false z1]; rfl)
                            go_wp2
                            go_meet
                            exact ⟨congrArg Value.bool HV.out.symm, rfl⟩
                        case rest =>
                         as_aux_lemma =>
                          obtain ⟨rfl, hwc⟩ := hcut
                          subst wc
                          cases hq : rlp l0.length a1 b1 a2 b2 T j with
                          | true =>
                            have hlt : j < l0.length := by
                              unfold rlp at hq
                              simp only [Bool.and_eq_true, decide_eq_true_eq] at hq
                              exact hq.1
                            obtain ⟨d', rfl⟩ : ∃ d', d = d' + 1 := ⟨d - 1, by omega⟩
                            have HE' := Aside0.mk (show runE l0.length a1 b1 a2 b2 T d' (j + 1) = U by have h := HE.out; unfold runE at h; rwa [if_pos hq] at h)
                            clear HE hq
                            go_wp2
                            go_roundg d'
                            case measure => omega
                            case rel => exact ⟨d', j + 1, by go_num, rfl, by omega, by omega, HE', rfl⟩
                          | false =>
                            have HE' := Aside0.mk (show j = U by
                              have h := HE.out
                              cases d with
                              | zero => exact h
                              | succ d => unfold runE at h; rwa [if_neg (by rw [hq]; exact Bool.false_ne_true)] at h)
                            clear HE hq
                            go_wp2
                            go_meet
                            exact ⟨by rw [HE'.out], rfl⟩
                    case rest =>
                     as_aux_lemma =>
                      obtain ⟨rfl, hwc⟩ := hcut
                      subst wc
                      go_upto_if 171 with fail
                      go_cut [16] (fun v16 wz => (∃ (A : Option Addr) (c : Nat), v16 = .slice A (o1 ++ runP l0 T U).length c) ∧ Aside0 (Kd.S k34 34 wz w7.heap.size (fun _ => True) v16 (o1 ++ runP l0 T U)) ∧ Aside0 (Below w7.heap.size w7 wz))
                      case first =>
                       as_aux_lemma =>
                        by_cases z1 : T < U
                        · have z1b : decide ((U : Int) > (T : Int)) = true := decide_eq_true (by omega)
                          have z1d : decide ((T : Int) < (U : Int)) = true := decide_eq_true (by omega)
                          obtain ⟨AS, hsl, hsm, hdS⟩ := str_mid A0 c0 l0 T U hU1 hU2 hc0
                          obtain ⟨s, es⟩ : ∃ s, s = segL l0 T U := ⟨_, rfl⟩
                          have HSL := Aside0.mk (show s.length ≤ 1000000 by rw [es]; unfold segL; rw [List.length_drop, List.length_take]; omega)
                          have HRP := Aside0.mk (show runP l0 T U = [⟨1, s, s, s⟩] by unfold runP; rw [if_pos z1, ← es])
                          rw [show (l0.take U).drop T = s from es.symm] at hsl hsm hdS
                          obtain ⟨dS, edS⟩ : ∃ d, d = c0 - T := ⟨_, rfl⟩
                          rw [← edS] at hsl hdS
                          have CS1 := Aside0.mk (hsm _ (Kd.C_below C0.out HB1.out))
                          have Z7 := Aside0.mk (show w7.heap.size ≤ W1.heap.size from Below.size HB1.out)
                          have MC := Aside0.mk (show ∀ x1 x2 x3 : World, Below W1.heap.size W1 x1 → Below x1.heap.size x1 x2 → Below x2.heap.size x2 x3 → Below W1.heap.size W1 x3 from fun x1 x2 x3 g1 g2 g3 => Below.trans g1 (Below.mono (Below.trans g2 (Below.mono g3 (Below.size g2))) (Below.size g1)))
                          have MK := Aside0.mk (show ∀ (x1 x2 x3 : World) (B1 B2 B3 : Option Addr) (d1 d2 d3 : Nat), Kd.R Kd.string 9 x1 W1.heap.size (fun _ => True) (.slice B1 s.length d1) s → Kd.R Kd.string 9 x2 x1.heap.size (fun _ => True) (.slice B2 s.length d2) s → Kd.R Kd.string 9 x3 x2.heap.size (fun _ => True) (.slice B3 s.length d3) s → Below W1.heap.size W1 x1 → Below x1.heap.size x1 x2 → Below x2.heap.size x2 x3 → k34.M x3 w7.heap.size (fun k => W1.heap.size ≤ k) ⟨1, s, s, s⟩ [.int .u8 1, .slice B1 s.length d1, .slice B2 s.length d2, .slice B3 s.length d3] from fun x1 x2 x3 B1 B2 B3 d1 d2 d3 v1 v2 v3 g1 g2 g3 => by
                            have y1 := Below.size g1
                            have y2 := Below.size g2
                            have y7 := Z7.out
                            exact k34_mkM _ _ _ ⟨1, s, s, s⟩ (cut_rowM (Kd.R_mono (Kd.R_below (Kd.R_bound v1) (Below.trans g2 (Below.mono g3 y2))) (fun _ _ => trivial)) y7) (Kd.R_mono (cut_rowM (Kd.R_mono (Kd.R_below (Kd.R_bound v2) g3) (fun _ _ => trivial)) (by omega)) (fun k hk => Nat.le_trans y1 hk)) (Kd.R_mono (cut_rowM v3 (by omega)) (fun k hk => Nat.le_trans (Nat.le_trans y1 y2) hk)))
                          have MS := Aside0.mk (show ∀ X : World, Below W1.heap.size W1 X → Kd.S k34 34 X w7.heap.size (fun k => True ∧ ¬ W1.heap.size ≤ k) (.slice A4 o1.length c4) o1 from fun X hX => Kd.S_mono (Kd.S_below (Kd.S_bound HS1.out) hX) (fun k hk => ⟨trivial, by have := hk.2.2.1; omega⟩))
                          have MB := Aside0.mk (show ∀ X : World, Below W1.heap.size W1 X → Below w7.heap.size w7 X from fun X hX => Below.trans HB1.out (Below.mono hX Z7.out))
                          have MZ := Aside0.mk (show ∀ X : World, Below W1.heap.size W1 X → w7.heap.size ≤ X.heap.size from fun X hX => by have := Below.size hX; have := Z7.out; omega)
                          have HLN := Aside0.mk (show (o1.length + 1) * 80 ≤ 140737488355328 by omega)
                          clear es edS hsm hdS HUE HTE HG1 q1
                          go_upto_region 25 with fail
                          go_wp2_with (first
                        | ((with_reducible refine gate_dst (N := 177) rfl ?_); (try (refine gate_guard (by rfl) ?_; dsimp only)); refine Kd.R_lit Kd.string _ 9 ?hg (N := 177) ?hd (xs := ([] : List ByteArray)) (inner := []) (ok := fun _ => True) (okp := fun _ => True) ?hr ?hp (fun _ hk => hk) trivial (Below.refl _ _) (Nat.le_refl _) (by simp) ?_; (case hd => rfl); (case hg => rfl); (case hr => first | (go_simp; done) | (go_simp; rfl)); (case hp => exact (Reps.none _ _)); intro e1 u1 ho hb _ _; have VE1 := Aside0.mk ho; have BE1 : Aside0 (Below W1.heap.size W1 u1) := ⟨hb⟩; clear ho hb)
                        | ((with_reducible refine gate_builtin (b := .append) (xs := #[.tmp 177, .tmp 178]) rfl ?_); (try (refine gate_guard (by rfl) ?_; dsimp only)); at_builtin; refine Kd.R_append_rows Kd.string (w0 := W1) W1.heap.size rfl (.tmp 177) (.tmp 178) 22 9 (.string ⟨#[]⟩) 16 rfl Try.underlying22 info9 rfl (by decide) (by omega) e1 ([] : List ByteArray) s _ _ _ (fun _ => True) (fun _ => False) rfl rfl VE1.out (Kd.C_below CS1.out BE1.out) (fun _ _ h => h) (fun _ h => h.elim) (fun _ _ => trivial) BE1.out (Below.size BE1.out) (by have := HSL.out; simp only [List.length_nil]; omega) ?_; intro f1 x1 ho hb _ _; rw [List.nil_append] at ho; obtain ⟨AF1, cF1, rfl⟩ := Kd.R_slice ho; have VF1 := Aside0.mk ho; have BF1 := Aside0.mk hb; clear ho hb; have CS2 := Aside0.mk (Kd.C_below CS1.out BF1.out))
                        | ((with_reducible refine gate_dst (N := 180) rfl ?_); (try (refine gate_guard (by rfl) ?_; dsimp only)); refine Kd.R_lit Kd.string _ 9 ?hg (N := 180) ?hd (xs := ([] : List ByteArray)) (inner := []) (ok := fun _ => True) (okp := fun _ => True) ?hr ?hp (fun _ hk => hk) trivial (Below.refl _ _) (Nat.le_refl _) (by simp) ?_; (case hd => rfl); (case hg => rfl); (case hr => first | (go_simp; done) | (go_simp; rfl)); (case hp => exact (Reps.none _ _)); intro e2 u2 ho hb _ _; have VE2 := Aside0.mk ho; have BE2 : Aside0 (Below x1.heap.size x1 u2) := ⟨hb⟩; clear ho hb)
                        | ((with_reducible refine gate_builtin (b := .append) (xs := #[.tmp 180, .tmp 181]) rfl ?_); (try (refine gate_guard (by rfl) ?_; dsimp only)); at_builtin; refine Kd.R_append_rows Kd.string (w0 := x1) x1.heap.size rfl (.tmp 180) (.tmp 181) 22 9 (.string ⟨#[]⟩) 16 rfl Try.underlying22 info9 rfl (by decide) (by omega) e2 ([] : List ByteArray) s _ _ _ (fun _ => True) (fun _ => False) rfl rfl VE2.out (Kd.C_below CS2.out BE2.out) (fun _ _ h => h) (fun _ h => h.elim) (fun _ _ => trivial) BE2.out (Below.size BE2.out) (by have := HSL.out; simp only [List.length_nil]; omega) ?_; intro f2 x2 ho hb _ _; rw [List.nil_append] at ho; obtain ⟨AF2, cF2, rfl⟩ := Kd.R_slice ho; have VF2 := Aside0.mk ho; have BF2 := Aside0.mk hb; clear ho hb; have CS3 := Aside0.mk (Kd.C_below CS2.out BF2.out))
                        | ((with_reducible refine gate_dst (N := 183) rfl ?_); (try (refine gate_guard (by rfl) ?_; dsimp only)); refine Kd.R_lit Kd.string _ 9 ?hg (N := 183) ?hd (xs := ([] : List ByteArray)) (inner := []) (ok := fun _ => True) (okp := fun _ => True) ?hr ?hp (fun _ hk => hk) trivial (Below.refl _ _) (Nat.le_refl _) (by simp) ?_; (case hd => rfl); (case hg => rfl); (case hr => first | (go_simp; done) | (go_simp; rfl)); (case hp => exact (Reps.none _ _)); intro e3 u3 ho hb _ _; have VE3 := Aside0.mk ho; have BE3 : Aside0 (Below x2.heap.size x2 u3) := ⟨hb⟩; clear ho hb)
                        | ((with_reducible refine gate_builtin (b := .append) (xs := #[.tmp 183, .tmp 184]) rfl ?_); (try (refine gate_guard (by rfl) ?_; dsimp only)); at_builtin; refine Kd.R_append_rows Kd.string (w0 := x2) x2.heap.size rfl (.tmp 183) (.tmp 184) 22 9 (.string ⟨#[]⟩) 16 rfl Try.underlying22 info9 rfl (by decide) (by omega) e3 ([] : List ByteArray) s _ _ _ (fun _ => True) (fun _ => False) rfl rfl VE3.out (Kd.C_below CS3.out BE3.out) (fun _ _ h => h) (fun _ h => h.elim) (fun _ _ => trivial) BE3.out (Below.size BE3.out) (by have := HSL.out; simp only [List.length_nil]; omega) ?_; intro f3 x3 ho hb _ _; rw [List.nil_append] at ho; obtain ⟨AF3, cF3, rfl⟩ := Kd.R_slice ho; have VF3 := Aside0.mk ho; have BF3 := Aside0.mk hb; clear ho hb)
                        | ((with_reducible refine gate_builtin (b := .append) (xs := #[.tmp 176, .tmp 187]) rfl ?_); (try (refine gate_guard (by rfl) ?_; dsimp only)); at_builtin; refine Kd.S_append k34 (w0 := w7) w7.heap.size rfl (.tmp 176) (.tmp 187) 24 34 (.agg #[.int .u8 0, .slice none 0 0, .slice none 0 0, .slice none 0 0]) 80 rfl Try.underlying24 info34 rfl (by decide) (by omega) (.slice A4 o1.length c4) o1 ⟨1, s, s, s⟩ [.int .u8 1, .slice AF1 s.length cF1, .slice AF2 s.length cF2, .slice AF3 s.length cF3] (fun _ => True) (fun k => W1.heap.size ≤ k) rfl rfl (MK.out x1 x2 x3 AF1 AF2 AF3 cF1 cF2 cF3 VF1.out VF2.out VF3.out BF1.out BF2.out BF3.out) (fun k hk => ⟨trivial, fun he => by have := Kd.S_lt HS1.out k he.symm; omega⟩) (fun _ _ => trivial) (MS.out x3 (MC.out x1 x2 x3 BF1.out BF2.out BF3.out)) (MB.out x3 (MC.out x1 x2 x3 BF1.out BF2.out BF3.out)) (MZ.out x3 (MC.out x1 x2 x3 BF1.out BF2.out BF3.out)) HLN.out ?_; intro v5 w5 hs5 hb5 _ _; obtain ⟨A5, c5, rfl⟩ := Kd.S_slice hs5; have HS5 := Aside0.mk hs5; have HB5 := Aside0.mk hb5; clear hs5 hb5))
                          go_meet
                          rw [HRP.out]
                          have h5 := HS5.out
                          simp only [List.length_append, List.length_cons, List.length_nil, Nat.zero_add] at h5
                          exact ⟨⟨A5, c5, by simp⟩, ⟨h5⟩, HB5⟩
                        · have z1b : decide ((U : Int) > (T : Int)) = false := decide_eq_false (by omega)
                          have z1d : decide ((T : Int) < (U : Int)) = false := decide_eq_false (by omega)
                          have HRP := Aside0.mk (show o1 ++ runP l0 T U = o1 by unfold runP; rw [if_neg z1, List.append_nil])
                          go_wp2
                          go_meet
                          rw [HRP.out]
                          exact ⟨⟨A4, c4, rfl⟩, HS1, HB1⟩
                      case rest =>
                       as_aux_lemma =>
                        obtain ⟨⟨A6, c6, rfl⟩, HS6, HB6⟩ := hcut
                        obtain ⟨W6, rfl⟩ : ∃ W6, W6 = wc := ⟨_, rfl⟩
                        have hrl := runP_len l0 T U
                        have hol2 : (o1 ++ runP l0 T U).length ≤ out.length + 2 := by rw [List.length_append]; omega
                        obtain ⟨o2, ho2⟩ : ∃ o2, o2 = o1 ++ runP l0 T U := ⟨_, rfl⟩
                        have hg := HG1.out
                        rw [← ho2] at hg HS6 hol2 ⊢
                        have HG2 := Aside0.mk hg
                        clear hg HG1 ho2 HS1 HB1 HUE HTE hrl
                        go_upto_region 27 with fail
                        go_cut [212] (fun s212 wz => s212 = .bool (rstop l0.length b1 b2 T U) ∧ wz = W6)
                        case first =>
                         as_aux_lemma =>
                          have z1d : U < n1 := by have := HN1.out; omega
                          have z1e : (U : Int) < (n1 : Int) := by omega
                          have k3 := bool_cell (Kd.C_below CB1.out HB6.out) U z1d
                          have k4 := bool_cell (Kd.C_below CB2.out HB6.out) U z1d
                          obtain ⟨u3, hu3⟩ : ∃ u, u = b1.getD U false := ⟨_, rfl⟩
                          obtain ⟨u4, hu4⟩ : ∃ u, u = b2.getD U false := ⟨_, rfl⟩
                          have HW := Aside0.mk (show rstop l0.length b1 b2 T U = (decide (U = l0.length) && (decide (T = U) || (!u3 && !u4))) by rw [hu3, hu4]; rfl)
                          rw [← hu3] at k3
                          rw [← hu4] at k4
                          clear hu3 hu4
                          by_cases z1 : U = l0.length
                          · have z1b : ((U : Int) == (l0.length : Int)) = true := beq_iff_eq.2 (by omega)
                            have HW2 := Aside0.mk (show rstop l0.length b1 b2 T U = (decide (T = U) || (!u3 && !u4)) by rw [HW.out, decide_eq_true z1]; rfl)
                            clear z1
                            by_cases z2 : T = U
                            · have z2b : ((T : Int) == (U : Int)) = true := beq_iff_eq.2 (by omega)
                              have HX := Aside0.mk (show rstop l0.length b1 b2 T U = true by rw [HW2.out, decide_eq_true z2]; rfl)
                              clear z2
                              go_wp2
                              go_meet
                              exact ⟨congrArg Value.bool HX.out.symm, rfl⟩
                            · have z2b : ((T : Int) == (U : Int)) = false := beq_eq_false_iff_ne.2 (by omega)
                              have HX := Aside0.mk (show rstop l0.length b1 b2 T U = (!u3 && !u4) by rw [HW2.out, decide_eq_false z2]; rfl)
                              cases u3 with
                              | true =>
                                go_wp2
                                go_meet
                                exact ⟨congrArg Value.bool HX.out.symm, rfl⟩
                              | false =>
                                go_wp2
                                go_meet
                                exact ⟨congrArg Value.bool (by rw [HX.out]; rfl), rfl⟩
                          · have z1b : ((U : Int) == (l0.length : Int)) = false := beq_eq_false_iff_ne.2 (by omega)
                            have HX := Aside0.mk (show rstop l0.length b1 b2 T U = false by rw [HW.out, decide_eq_false z1]; rfl)
                            go_wp2
                            go_meet
                            exact ⟨congrArg Value.bool HX.out.symm, rfl⟩
                        case rest =>
                         as_aux_lemma =>
                          obtain ⟨rfl, hwc⟩ := hcut
                          subst wc
                          have hg := HG2.out
                          cases hq : rstop l0.length b1 b2 T U with
                          | true =>
                            rw [hq, if_pos rfl] at hg
                            obtain rfl := Option.some.inj hg
                            go_wp2
                            go_meet
                            exact ⟨⟨A6, c6, rfl⟩, HS6, HB6⟩
                          | false =>
                            rw [hq, if_neg Bool.false_ne_true] at hg
                            have HG3 := Aside0.mk hg
                            clear hg HG2 hq
                            go_wp2
                            go_roundg f'
                            case measure => omega
                            case rel => exact ⟨f', U, o2, rfl, rfl, hU2, HG3, by omega, ⟨A6, c6, rfl⟩, HS6, HB6⟩
          case rest =>
           as_aux_lemma =>
            obtain ⟨⟨A, c, rfl⟩, HS, HB⟩ := hcut
            go_wp2
            go_ret2
            exact ⟨_, rfl, Kd.S_lower HS.out (Below.size HB07.out), Below.trans HB07.out (Below.mono HB.out (Below.size HB07.out))⟩
        · cases h
      · rw [if_neg z2] at h
        obtain ⟨rfl, rfl⟩ := Prod.mk.inj (Option.some.inj h)
        clear h
        have y1 : (e2 == 0) = false := by simpa using z2
        have y2 : (e2 != 0) = true := by simpa using z2
        go_upto_region 6 with (go_at_call 17; (with_reducible refine (sidingref13_Lines.calls k A2 c2 l2 e2 _ HC2.out hc2 HL2.out).mono ?_); rintro e_ w3 ⟨rfl, hb⟩; have HB2 := Aside0.mk (Below.trans HB1.out (Below.mono hb (Below.size HB1.out))); clear hb)
        have HD := Aside0.mk (Kd.C_below HR2.out HB2.out)
        go_wp2_with (go_at_call 17; (with_reducible refine (sidingref13_Lines.calls k A2 c2 l2 e2 _ HD.out hc2 HL2.out).mono ?_); rintro e_ w9 ⟨rfl, hb⟩; have HB9 := Aside0.mk (Below.trans HB2.out (Below.mono hb (Below.size HB2.out))); clear hb)
        go_ret2
        exact ⟨_, rfl, Kd.S_nil _ _ _ _ _, HB9.out⟩
    · rw [if_neg z1] at h
      obtain ⟨rfl, rfl⟩ := Prod.mk.inj (Option.some.inj h)
      clear h
      have y1 : (e1 == 0) = false := by simpa using z1
      have y2 : (e1 != 0) = true := by simpa using z1
      go_upto_region 4 with (go_at_call 17; (with_reducible refine (sidingref13_Lines.calls k A1 c1 l1 e1 _ HC1.out hc1 HL1.out).mono ?_); rintro e_ w2 ⟨rfl, hb⟩; have HB1 := Aside0.mk (Below.trans HB0.out (Below.mono hb (Below.size HB0.out))); clear hb)
      have HD := Aside0.mk (Kd.C_below HR1.out HB1.out)
      go_wp2_with (go_at_call 17; (with_reducible refine (sidingref13_Lines.calls k A1 c1 l1 e1 _ HD.out hc1 HL1.out).mono ?_); rintro e_ w9 ⟨rfl, hb⟩; have HB9 := Aside0.mk (Below.trans HB1.out (Below.mono hb (Below.size HB1.out))); clear hb)
      go_ret2
      exact ⟨_, rfl, Kd.S_nil _ _ _ _ _, HB9.out⟩
  · rw [if_neg z0] at h
    obtain ⟨rfl, rfl⟩ := Prod.mk.inj (Option.some.inj h)
    clear h
    have y1 : (e0 == 0) = false := by simpa using z0
    have y2 : (e0 != 0) = true := by simpa using z0
    go_upto_region 2 with (go_at_call 17; (with_reducible refine (sidingref13_Lines.calls k A0 c0 l0 e0 _ HC0.out hc0 HL0.out).mono ?_); rintro e_ w1 ⟨rfl, hb⟩; have HB0 := Aside0.mk hb; clear hb)
    have HD := Aside0.mk (Kd.C_below HR0.out HB0.out)
    go_wp2_with (go_at_call 17; (with_reducible refine (sidingref13_Lines.calls k A0 c0 l0 e0 _ HD.out hc0 HL0.out).mono ?_); rintro e_ w9 ⟨rfl, hb⟩; have HB9 := Aside0.mk (Below.trans HB0.out (Below.mono hb (Below.size HB0.out))); clear hb)
    go_ret2
    exact ⟨_, rfl, Kd.S_nil _ _ _ _ _, HB9.out⟩
end Go.Proofs.Ytahpbpacjciddaa.Pr
