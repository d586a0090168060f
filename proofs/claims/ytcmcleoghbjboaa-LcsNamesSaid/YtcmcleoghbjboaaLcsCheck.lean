/- lcs.Check: the error of a matching: a walk by hand (pairs are compared as arrays). -/
import Derived.Test.YtcmcleoghbjboaaSLcs
import Derived.Test.YtcmcleoghbjboaaWk
import Derived.ChangeKeysEq
import Derived.RegionTactic
namespace Go.Proofs.Ytcmcleoghbjboaa.Pr
open Go.RowKit Go.Proofs.YtcmcleoghbjboaaW.PrintWords Go.Proofs.YtcmcleoghbjboaaW.PrintLast Go.Proofs.YtcmcleoghbjboaaW.PrintMore
set_option linter.unusedVariables false
set_option linter.unusedSimpArgs false

theorem eqArr2 (d : Nat) (w : World) (x0 y0 x1 y1 : Int) :
    (Op.equalIn (d + 2) 38 (.agg #[.int .i64 x0, .int .i64 x1]) (.agg #[.int .i64 y0, .int .i64 y1])).run Try.prog w = .ok (x0 == y0 && (x1 == y1)) w := by
  obtain ⟨i, hi, _⟩ := Option.map_eq_some_iff.1 info3
  have hc : Try.prog.cellsOf 3 = 1 := by kernel_rfl
  rw [run_equalIn_array (w := w) (d + 1) (n := 2) (e := 3) (i := i) _ _ Try.underlying38 hi, hc]
  have e1 : (part 3 #[Value.int .i64 x0, .int .i64 x1] (0 * 1)).run Try.prog w = .ok (.int .i64 x0) w := by go_simp
  have e2 : (part 3 #[Value.int .i64 y0, .int .i64 y1] (0 * 1)).run Try.prog w = .ok (.int .i64 y0) w := by go_simp
  have e3 : (part 3 #[Value.int .i64 x0, .int .i64 x1] (1 * 1)).run Try.prog w = .ok (.int .i64 x1) w := by go_simp
  have e4 : (part 3 #[Value.int .i64 y0, .int .i64 y1] (1 * 1)).run Try.prog w = .ok (.int .i64 y1) w := by go_simp
  have e5 : (Op.equalIn (d + 1) 3 (.int .i64 x0) (.int .i64 y0)).run Try.prog w = .ok (x0 == y0) w := by go_simp
  have e6 : (Op.equalIn (d + 1) 3 (.int .i64 x1) (.int .i64 y1)).run Try.prog w = .ok (x1 == y1) w := by go_simp
  have hr : List.range 2 = [0, 1] := rfl
  rw [hr]
  simp only [Op.eqItems, Sem.run_bind, e1, e2, Result.andThen_ok, e5]
  cases h : (x0 == y0)
  · simp
  · simp only [Bool.not_true, Bool.false_eq_true, if_false, Op.eqItems, Sem.run_bind, e3, e4, Result.andThen_ok, e6]
    cases h2 : (x1 == y1) <;> simp

/-- Does a pair follow another one in a matching? -/
def pairOk (a b : List ByteArray) (l p : Int × Int) : Bool :=
  decide (l.1 < p.1) && decide (l.2 < p.2) && decide (p.1 < (a.length : Int)) && decide (p.2 < (b.length : Int)) && decide (rdOf ByteArray.empty a p.1 = rdOf ByteArray.empty b p.2)
/-- Is a list a matching behind a pair? -/
def matchFrom (a b : List ByteArray) : Int × Int → List S31 → Bool
  | _, [] => true
  | l, p :: m => pairOk a b l (p.f0, p.f1) && matchFrom a b (p.f0, p.f1) m
/-- The error of a matching. -/
def matchErr (a b : List ByteArray) (m : List S31) : Int := if bothErr a b = 0 then (if 60 < m.length then 4 else if matchFrom a b (-1, -1) m = true then 0 else 8) else bothErr a b
def lcs_Check.f (l0 : List ByteArray) (l1 : List ByteArray) (l2 : List (S31)) : Option (Int) := if (smallB l0 && smallB l1) = true then some (matchErr l0 l1 l2) else none

/-- The cells of element kk of a row of pairs. -/
theorem at_pair {w : World} {A : Option Addr} {xs : List S31} (h : Kd.C k31 w A xs.length xs) (kk : Nat) (hk : kk < xs.length) :
    ∃ b o, A = some ⟨b, o, none⟩ ∧ w.cell? ⟨b, o + kk * 2, none⟩ = some (.int .i64 (xs[kk]'hk).f0) ∧ w.cell? ⟨b, o + kk * 2 + 1, none⟩ = some (.int .i64 (xs[kk]'hk).f1) := by
  obtain ⟨b, o, rfl, _⟩ := C_addr (d := k31) (by decide) h (by omega)
  obtain ⟨ad, e, h0, h1⟩ := at_T31 h (kk : Int) (by omega) (by omega)
  injection e with e
  subst e
  have hx : rd_T31 xs (kk : Int) = xs[kk] := by simp [rd_T31, hk]
  rw [hx, Int.toNat_natCast] at h0 h1
  have ha : (⟨b, o, none⟩ : Addr).add (kk * 2) = ⟨b, o + kk * 2, none⟩ := by unfold Addr.add; split <;> simp_all
  rw [ha] at h0 h1
  exact ⟨b, o, rfl, h0, h1⟩

/-- The cell of element i of a row of strings. -/
theorem at_str {w : World} {A : Option Addr} {xs : List ByteArray} (h : Kd.C Kd.string w A xs.length xs) (i : Int) (h0 : 0 ≤ i) (h1 : i < (xs.length : Int)) :
    ∃ b o, A = some ⟨b, o, none⟩ ∧ b < w.heap.size ∧ w.cell? ⟨b, o + i.toNat, none⟩ = some (.string (rdOf ByteArray.empty xs i)) := by
  obtain ⟨b, o, rfl, hb, hc⟩ := C_strings h (by omega)
  refine ⟨b, o, rfl, hb, hc i.toNat _ ?_⟩
  have hl : i.toNat < xs.length := by omega
  simp [rdOf, hl]

attribute [local go_sem high] eqArr2
set_option maxHeartbeats 8000000 in
set_option maxRecDepth 100000 in
theorem lcs_Check.calls (A0 : Option Addr) (c0 : Nat) (l0 : List ByteArray) (A1 : Option Addr) (c1 : Nat) (l1 : List ByteArray) (A2 : Option Addr) (c2 : Nat) (l2 : List (S31)) (r : Int) (w : World) (hr0 : Kd.C Kd.string w A0 l0.length l0) (hc0 : l0.length ≤ c0) (hr1 : Kd.C Kd.string w A1 l1.length l1) (hc1 : l1.length ≤ c1) (hr2 : Kd.C k31 w A2 l2.length l2) (hc2 : l2.length ≤ c2) (h : lcs_Check.f l0 l1 l2 = some r) :
    Calls Try.prog 7 #[.slice A0 l0.length c0, .slice A1 l1.length c1, .slice A2 l2.length c2] w fun e w' => e = .returned (.int .i64 r) ∧ Below w.heap.size w w' := by
  unfold lcs_Check.f at h
  split at h
  · rename_i hsm
    rw [Bool.and_eq_true] at hsm
    have hck := lcheck_val l0 l1 (small_of_B hsm.1) (small_of_B hsm.2)
    obtain rfl : matchErr l0 l1 l2 = r := by injection h
    clear h hsm
    have hcc := fun W (h0 : Kd.C Kd.string W A0 l0.length l0) (h1 : Kd.C Kd.string W A1 l1.length l1) => lcs_check.calls A0 c0 l0 A1 c1 l1 (bothErr l0 l1) W h0 hc0 h1 hc1 hck
    clear hck
    have HR0 := Aside0.mk hr0
    have HR1 := Aside0.mk hr1
    have HR2 := Aside0.mk hr2
    have HC0 := Aside0.mk hc0
    have HC1 := Aside0.mk hc1
    have HC2 := Aside0.mk hc2
    have hbig2 : l2.length ≤ 9223372036854775807 := hr2.2.1
    have hbig0 : l0.length ≤ 9223372036854775807 := hr0.2.1
    have hbig1 : l1.length ≤ 9223372036854775807 := hr1.2.1
    clear hr0 hr1 hr2 hc0 hc1 hc2
    by_cases he : bothErr l0 l1 = 0
    · rw [he] at hcc
      have HCC := Aside0.mk hcc
      have HE := Aside0.mk he
      clear hcc he
      by_cases hm : 60 < l2.length
      · have hmi : (60 : Int) < (l2.length : Int) := by omega
        go_enter Try.func7, Try.ntmps7
        go_wp2_with (go_at_call 9; refine (HCC.out _ HR0.out HR1.out).mono ?_; rintro e w1 ⟨rfl, hb⟩; have HB := Aside0.mk hb; clear hb)
        go_ret
        refine ⟨?_, HB.out⟩
        unfold matchErr
        rw [if_pos HE.out, if_pos hm]
        rfl
      · have hmi : ¬ (60 : Int) < (l2.length : Int) := by omega
        go_enter Try.func7, Try.ntmps7
        go_wp2_with (go_at_call 9; refine (HCC.out _ HR0.out HR1.out).mono ?_; rintro e w1 ⟨rfl, hb⟩; have HB := Aside0.mk hb; clear hb)
        have hg0 : w1.heap.size < (w1.alloc (Obj.cells #[Value.int IntKind.i64 (-1), Value.int IntKind.i64 (-1)] 38)).heap.size := by simp
        obtain ⟨g, hg⟩ : ∃ g, g = w1.heap.size := ⟨_, rfl⟩
        rw [← hg]
        have HG := Aside0.mk hg
        clear hg hg0
        have H0 : Aside0 ((w1.alloc (Obj.cells #[Value.int IntKind.i64 (-1), Value.int IntKind.i64 (-1)] 38)).heap[g]? = some (.cells #[.int .i64 (-1), .int .i64 (-1)] 38 (0, 0))) := ⟨by rw [HG.out]; exact heap_alloc_new w1 _⟩
        have HBa : Aside0 (Below w1.heap.size w1 (w1.alloc (Obj.cells #[Value.int IntKind.i64 (-1), Value.int IntKind.i64 (-1)] 38))) := ⟨below_alloc (Below.refl _ _) _⟩
        go_loopg [24] l2.length (fun gg s24 wr => ∃ (kk : Nat) (x y : Int), kk ≤ l2.length ∧ l2.length - kk ≤ gg ∧ s24 = .int .i64 kk ∧ Aside0 (wr.heap[g]? = some (.cells #[.int .i64 x, .int .i64 y] 38 (0, 0))) ∧ Aside0 (Below w1.heap.size w1 wr) ∧ (-1 ≤ x ∧ -1 ≤ y) ∧ Aside0 (matchFrom l0 l1 (-1, -1) l2 = matchFrom l0 l1 (x, y) (l2.drop kk)))
        case atStart => exact ⟨0, -1, -1, Nat.zero_le _, by omega, rfl, H0, HBa, by omega, ⟨rfl⟩⟩
        case round =>
          clear H0 HBa
          obtain ⟨kk, x, y, hkk, hgg, rfl, HL, HBr, ⟨hx, hy⟩, HM⟩ := hrel
          have hsz : g < wr.heap.size := (Array.getElem?_eq_some_iff.1 HL.out).1
          have hl0 : wr.cell? ⟨g, 0, none⟩ = some (.int .i64 x) := (blk_cell HL.out 0).trans rfl
          have hl1 : wr.cell? ⟨g, 1, none⟩ = some (.int .i64 y) := (blk_cell HL.out 1).trans rfl
          have hf0 : wr.frozen? ⟨g, 0, none⟩ = false := blk_frozen HL.out 0
          have hf1 : wr.frozen? ⟨g, 1, none⟩ = false := blk_frozen HL.out 1
          by_cases hlt : kk < l2.length
          · have hltz : (kk : Int) < (l2.length : Int) := by omega
            obtain ⟨pb, po, rfl, hp0, hp1⟩ := at_pair (Kd.C_below (Kd.C_below HR2.out HB.out) HBr.out) kk hlt
            have hpb : pb < wr.heap.size := (cell_lt hp0).2
            obtain ⟨p, hp⟩ : ∃ p, p = l2[kk] := ⟨_, rfl⟩
            rw [← hp] at hp0 hp1
            have HP := Aside0.mk hp
            clear hp
            obtain ⟨pi, hpi⟩ : ∃ q, q = p.f0 := ⟨_, rfl⟩
            obtain ⟨pk, hpk⟩ : ∃ q, q = p.f1 := ⟨_, rfl⟩
            rw [← hpi] at hp0
            rw [← hpk] at hp1
            have HPI := Aside0.mk hpi
            have HPK := Aside0.mk hpk
            clear hpi hpk
            have hstep : matchFrom l0 l1 (x, y) (l2.drop kk) = (pairOk l0 l1 (x, y) (pi, pk) && matchFrom l0 l1 (pi, pk) (l2.drop (kk + 1))) := by
              rw [drop_at l2 kk hlt, ← HP.out, HPI.out, HPK.out]
              rfl
            have HST := Aside0.mk hstep
            have fin8 : pairOk l0 l1 (x, y) (pi, pk) = false → matchErr l0 l1 l2 = 8 := by
              intro hf
              unfold matchErr
              rw [if_pos HE.out, if_neg hm, HM.out, HST.out, hf]
              rfl
            have FIN := Aside0.mk fin8
            clear hstep fin8
            have hEq0 : (pi == x && (pk == y)) = true ∨ (pi == x && (pk == y)) = false := by cases (pi == x && (pk == y)) <;> simp
            rcases hEq0 with hEq | hEq
            · have HPO : pairOk l0 l1 (x, y) (pi, pk) = false := by
                simp only [Bool.and_eq_true, beq_iff_eq] at hEq
                unfold pairOk
                rw [hEq.1]
                simp
              have HF := Aside0.mk (FIN.out HPO)
              clear HPO
              go_wp2
              go_quiet (fail)
              go_wp2
              go_ret
              refine ⟨by rw [HF.out]; rfl, ?_⟩
              repeat (first | exact below_then HB.out (Below.size HB.out) HBr.out | apply below_alloc | apply pw_below_drewN | apply below_drew)
            · by_cases h2 : pi ≤ x
              · have d2 : decide (pi ≤ x) = true := decide_eq_true h2
                have HPO : pairOk l0 l1 (x, y) (pi, pk) = false := by
                  unfold pairOk
                  rw [decide_eq_false (show ¬ (x < pi) by omega)]
                  simp
                have HF := Aside0.mk (FIN.out HPO)
                clear HPO
                go_wp2
                go_quiet (fail)
                go_wp2
                go_ret
                refine ⟨by rw [HF.out]; rfl, ?_⟩
                repeat (first | exact below_then HB.out (Below.size HB.out) HBr.out | apply below_alloc | apply pw_below_drewN | apply below_drew)
              · have d2 : decide (pi ≤ x) = false := decide_eq_false h2
                by_cases h3 : pk ≤ y
                · have d3 : decide (pk ≤ y) = true := decide_eq_true h3
                  have HPO : pairOk l0 l1 (x, y) (pi, pk) = false := by
                    unfold pairOk
                    rw [decide_eq_false (show ¬ (y < pk) by omega)]
                    simp
                  have HF := Aside0.mk (FIN.out HPO)
                  clear HPO
                  go_wp2
                  go_quiet (fail)
                  go_wp2
                  go_ret
                  refine ⟨by rw [HF.out]; rfl, ?_⟩
                  repeat (first | exact below_then HB.out (Below.size HB.out) HBr.out | apply below_alloc | apply pw_below_drewN | apply below_drew)
                · have d3 : decide (pk ≤ y) = false := decide_eq_false h3
                  by_cases h4 : pi ≥ (l0.length : Int)
                  · have d4 : decide ((l0.length : Int) ≤ pi) = true := decide_eq_true h4
                    have HPO : pairOk l0 l1 (x, y) (pi, pk) = false := by
                      unfold pairOk
                      rw [decide_eq_false (show ¬ (pi < (l0.length : Int)) by omega)]
                      simp
                    have HF := Aside0.mk (FIN.out HPO)
                    clear HPO
                    go_wp2
                    go_quiet (fail)
                    go_wp2
                    go_ret
                    refine ⟨by rw [HF.out]; rfl, ?_⟩
                    repeat (first | exact below_then HB.out (Below.size HB.out) HBr.out | apply below_alloc | apply pw_below_drewN | apply below_drew)
                  · have d4 : decide ((l0.length : Int) ≤ pi) = false := decide_eq_false h4
                    by_cases h5 : pk ≥ (l1.length : Int)
                    · have d5 : decide ((l1.length : Int) ≤ pk) = true := decide_eq_true h5
                      have HPO : pairOk l0 l1 (x, y) (pi, pk) = false := by
                        unfold pairOk
                        rw [decide_eq_false (show ¬ (pk < (l1.length : Int)) by omega)]
                        simp
                      have HF := Aside0.mk (FIN.out HPO)
                      clear HPO
                      go_wp2
                      go_quiet (fail)
                      go_wp2
                      go_ret
                      refine ⟨by rw [HF.out]; rfl, ?_⟩
                      repeat (first | exact below_then HB.out (Below.size HB.out) HBr.out | apply below_alloc | apply pw_below_drewN | apply below_drew)
                    · have d5 : decide ((l1.length : Int) ≤ pk) = false := decide_eq_false h5
                      have p0 : 0 ≤ pi := by omega
                      have p1 : 0 ≤ pk := by omega
                      have p2 : pi < (l0.length : Int) := by omega
                      have p3 : pk < (l1.length : Int) := by omega
                      obtain ⟨ab, ao, rfl, hab, hca⟩ := at_str (Kd.C_below (Kd.C_below HR0.out HB.out) HBr.out) pi p0 p2
                      obtain ⟨bb, bo, rfl, hbb, hcb⟩ := at_str (Kd.C_below (Kd.C_below HR1.out HB.out) HBr.out) pk p1 p3
                      obtain ⟨sa, hsa⟩ : ∃ s, s = rdOf ByteArray.empty l0 pi := ⟨_, rfl⟩
                      obtain ⟨sb, hsb⟩ : ∃ s, s = rdOf ByteArray.empty l1 pk := ⟨_, rfl⟩
                      rw [← hsa] at hca
                      rw [← hsb] at hcb
                      have HSA := Aside0.mk hsa
                      have HSB := Aside0.mk hsb
                      clear hsa hsb
                      have q4 : decide (pi ≥ (l0.length : Int)) = false := decide_eq_false h4
                      have q5 : decide (pk ≥ (l1.length : Int)) = false := decide_eq_false h5
                      by_cases h6 : sa = sb
                      · have HPO : pairOk l0 l1 (x, y) (pi, pk) = true := by
                          unfold pairOk
                          rw [← HSA.out, ← HSB.out]
                          simp only [decide_eq_true (show x < pi by omega), decide_eq_true (show y < pk by omega), decide_eq_true p2, decide_eq_true p3, decide_eq_true h6]
                          rfl
                        have HPO2 := Aside0.mk HPO
                        have h7 : (sa.toList == sb.toList) = true := by rw [h6]; simp
                        have h8 : (sa.toList != sb.toList) = false := by rw [h6]; simp
                        clear HPO h6
                        go_wp2
                        go_quiet (fail)
                        go_wp2
                        go_roundg (l2.length - (kk + 1))
                        case measure => omega
                        case rel => exact ⟨kk + 1, pi, pk, by omega, by omega, (by first | rfl | (simp; done)), ⟨blk_put (blk_put (blk_drewN (blk_alloc (blk_alloc HL.out _) _) _) 0 _ rfl) 1 _ rfl⟩, ⟨below_set (below_set (pw_below_drewN (below_alloc (below_alloc HBr.out _) _) _) (Nat.le_of_eq HG.out.symm)) (Nat.le_of_eq HG.out.symm)⟩, ⟨by omega, by omega⟩, ⟨HM.out.trans (by rw [HST.out, HPO2.out]; rfl)⟩⟩
                      · have HPO : pairOk l0 l1 (x, y) (pi, pk) = false := by
                          unfold pairOk
                          rw [← HSA.out, ← HSB.out, decide_eq_false h6]
                          simp
                        have HF := Aside0.mk (FIN.out HPO)
                        clear HPO
                        have h7 : (sa.toList == sb.toList) = false := by simpa using fun e => h6 (toList_inj.1 e)
                        have h8 : (sa.toList != sb.toList) = true := by simpa using fun e => h6 (toList_inj.1 e)
                        clear h6
                        go_wp2
                        go_quiet (fail)
                        go_wp2
                        go_ret
                        refine ⟨by rw [HF.out]; rfl, ?_⟩
                        repeat (first | exact below_then HB.out (Below.size HB.out) HBr.out | apply below_alloc | apply pw_below_drewN | apply below_drew)
          · have hltz : ¬ (kk : Int) < (l2.length : Int) := by omega
            have hk : kk = l2.length := by omega
            have HK := Aside0.mk hk
            clear hk
            go_wp2
            go_ret
            refine ⟨?_, below_then HB.out (Below.size HB.out) HBr.out⟩
            unfold matchErr
            rw [if_pos HE.out, if_neg hm, HM.out, HK.out, List.drop_length]
            rfl
    · have HCC := Aside0.mk hcc
      have HE := Aside0.mk he
      obtain ⟨n, hn⟩ : ∃ n, n = bothErr l0 l1 := ⟨_, rfl⟩
      rw [← hn] at hcc he
      have he1 : (n == 0) = false := by simpa using he
      have he2 : (n != 0) = true := by simpa using he
      have HCC := Aside0.mk hcc
      have HN := Aside0.mk hn
      clear hcc he hn
      go_enter Try.func7, Try.ntmps7
      go_wp2_with (go_at_call 9; refine (HCC.out _ HR0.out HR1.out).mono ?_; rintro e w1 ⟨rfl, hb⟩; have HB := Aside0.mk hb; clear hb)
      go_ret
      refine ⟨?_, HB.out⟩
      unfold matchErr
      rw [if_neg HE.out, ← HN.out]
      rfl
  · cases h
end Go.Proofs.Ytcmcleoghbjboaa.Pr
