/- slices.Concat of lists of strings: a new list, one behind the other. -/
import Derived.Test.YtiledjckdnkjgaaDoorPk
import Derived.Test.YtiledjckdnkjgaaDoorWk
namespace Go.Proofs.YtiledjckdnkjgaaDoor.Pr
open Go.RowKit Go.Proofs.YtiledjckdnkjgaaDoorW.PrintWords Go.Proofs.YtiledjckdnkjgaaDoorW.PrintLast Go.Proofs.YtiledjckdnkjgaaDoorW.PrintMore
set_option linter.unusedVariables false
set_option linter.unusedSimpArgs false

set_option maxHeartbeats 2000000 in
theorem grow_nil (n : Nat) (w : World) (hn : n < 8796093022208) :
    Calls Tryd.prog 34 #[.slice none 0 0, .int .i64 (n : Int)] w fun e w' => ∃ v : Value, e = .returned v ∧ Kd.R Kd.string 9 w' w.heap.size (fun _ => True) v [] ∧ Below w.heap.size w w' := by
  by_cases h0 : n = 0
  · subst h0
    go_enter Tryd.func34, Tryd.ntmps34
    go_wp2
    go_ret
    exact ⟨_, rfl, Kd.R_nil _ _ _ _ _, Below.refl _ _⟩
  · have h1 : (0 : Int) < (n : Int) := by omega
    have h2 : ¬ ((n : Int) < 0) := by omega
    have hnb : (n : Int) ≤ 9223372036854775807 := by omega
    have HN := Aside0.mk hn
    have H0 := Aside0.mk h0
    clear hn h0
    go_enter Tryd.func34, Tryd.ntmps34
    go_wp2_with (at_builtin; refine Kd.R_append_zeros Kd.string (w0 := w) w.heap.size rfl _ _ 22 3 9 (.string ⟨#[]⟩) 16 rfl Tryd.underlying22 Tryd.underlying3 info9 rfl (by decide) (by omega) (.slice none 0 0) ([] : List ByteArray) (⟨#[]⟩ : ByteArray) (n : Int) (fun _ => True) rfl rfl rfl (fun _ _ => trivial) (Kd.R_nil _ _ _ _ _) (by omega) (Below.refl _ _) (Nat.le_refl _) (by simp; have := HN.out; omega) ?_; intro v1 w1 ho hb _ _; obtain ⟨A1, c1, rfl⟩ := Kd.R_slice ho; have HO := Aside0.mk ho; have HB := Aside0.mk hb; clear ho hb)
    go_ret
    refine ⟨_, rfl, ?_, HB.out⟩
    have h := Kd.R_take (m := 0) HO.out (Nat.zero_le _)
    simpa using h

/-- How many elements the lists have. -/
def sumLen (l : List (List ByteArray)) : Nat := (l.map List.length).sum
theorem sumLen_take_succ (l : List (List ByteArray)) (i : Nat) (h : i < l.length) : sumLen (l.take (i + 1)) = sumLen (l.take i) + l[i].length := by
  unfold sumLen
  rw [take_succ_at l i h, List.map_append, List.sum_append]
  simp
theorem sumLen_take_le (l : List (List ByteArray)) (i : Nat) : sumLen (l.take i) ≤ sumLen l := by
  have h := congrArg sumLen (List.take_append_drop i l)
  unfold sumLen at h ⊢
  rw [List.map_append, List.sum_append] at h
  omega
theorem flat_length (l : List (List ByteArray)) : l.flatten.length = sumLen l := by
  unfold sumLen
  rw [List.length_flatten]

def slices_Concat.f (l0 : List (List ByteArray)) : Option (List ByteArray) := if sumLen l0 < 8796093022208 then some l0.flatten else none
/-- Element kk of a row of lists that is read. -/
theorem at_rows {w : World} {A : Option Addr} {xs : List (List ByteArray)} (h : Kd.C (Kd.slice 9 Kd.string) w A xs.length xs) (kk : Nat) (hk : kk < xs.length) :
    ∃ ad A1 c1, A = some ad ∧ w.cell? (ad.add kk) = some (.slice A1 (xs[kk]'hk).length c1) ∧ (xs[kk]'hk).length ≤ c1 ∧ Kd.C Kd.string w A1 (xs[kk]'hk).length (xs[kk]'hk) := by
  obtain ⟨ad, c, e, _, hK, hc⟩ := Kd.C_get h [] (kk : Int) (by omega) (by omega)
  have hx : xs.getD (kk : Int).toNat [] = xs[kk] := by simp [hk]
  rw [hx] at hK
  obtain ⟨A1, c1, rfl, hl, hC⟩ := hK
  have h0 := hc 0 _ rfl
  have hsz : (Kd.slice 9 Kd.string).sz = 1 := rfl
  rw [hsz, Int.toNat_natCast, Nat.mul_one, Nat.add_zero] at h0
  exact ⟨ad, A1, c1, e, h0, hl, hC⟩

set_option maxHeartbeats 4000000 in
theorem slices_Concat.calls (A0 : Option Addr) (c0 : Nat) (l0 : List (List ByteArray)) (r : List ByteArray) (w : World) (hr0 : Kd.C (Kd.slice 9 Kd.string) w A0 l0.length l0) (hc0 : l0.length ≤ c0) (h : slices_Concat.f l0 = some r) :
    Calls Tryd.prog 26 #[.slice A0 l0.length c0] w fun e w' => ∃ v0_ : Value, e = .returned (v0_) ∧ Kd.R Kd.string 9 w' w.heap.size (fun _ => True) v0_ r ∧ Below w.heap.size w w' := by
  unfold slices_Concat.f at h
  split at h
  · rename_i hsum
    injection h with h
    have hbig : l0.length ≤ 9223372036854775807 := hr0.2.1
    have HS := Aside0.mk hsum
    have HR0 := Aside0.mk hr0
    have HF := Aside0.mk h
    clear hsum hr0 h
    go_enter Tryd.func26, Tryd.ntmps26
    go_wp2
    go_loopg [3, 5, 11] l0.length (fun gg s3 _ s11 wr => ∃ kk : Nat, kk ≤ l0.length ∧ l0.length - kk ≤ gg ∧ s3 = .int .i64 (sumLen (l0.take kk) : Nat) ∧ s11 = .int .i64 kk ∧ w = wr)
    case atStart => exact ⟨0, Nat.zero_le _, by omega, by simp [sumLen], rfl, rfl⟩
    case round =>
      obtain ⟨kk, hkk, hg, rfl, rfl, rfl⟩ := hrel
      have hle := sumLen_take_le l0 kk
      have hsn : sumLen (l0.take kk) < 8796093022208 := Nat.lt_of_le_of_lt hle HS.out
      obtain ⟨n, hn⟩ : ∃ n, n = sumLen (l0.take kk) := ⟨_, rfl⟩
      rw [← hn] at hsn ⊢
      have HN := Aside0.mk hn
      clear hn hle
      by_cases hlt : kk < l0.length
      · have hltz : (kk : Int) < (l0.length : Int) := by omega
        obtain ⟨ad, A1, c1, rfl, hcell, hl1, hC1⟩ := at_rows HR0.out kk hlt
        have hstep := sumLen_take_succ l0 kk hlt
        have hle2 := sumLen_take_le l0 (kk + 1)
        have hb2 : n + (l0[kk]).length < 8796093022208 := by
          have := HS.out
          rw [hstep, ← HN.out] at hle2
          omega
        rw [← HN.out] at hstep
        have HST := Aside0.mk hstep
        obtain ⟨m, hm⟩ : ∃ m, m = (l0[kk]).length := ⟨_, rfl⟩
        rw [← hm] at hb2 hcell
        have HM := Aside0.mk hm
        have hnn : ¬ ((n : Int) + (m : Int) < 0) := by omega
        have hnb : (n : Int) + (m : Int) ≤ 9223372036854775807 := by omega
        have hnb0 : 0 ≤ (n : Int) + (m : Int) := by omega
        clear hm hstep hle2 hl1 hC1
        go_wp2
        go_roundg (l0.length - (kk + 1))
        case measure => omega
        case rel => exact ⟨kk + 1, by omega, by omega, by rw [HST.out, ← HM.out]; go_num, by go_num, rfl⟩
      · have hltz : ¬ (kk : Int) < (l0.length : Int) := by omega
        have hk : kk = l0.length := by omega
        have HK := Aside0.mk hk
        clear hk
        go_wp2_with (go_at_call 34; refine (grow_nil n _ hsn).mono ?_; rintro e w1 ⟨v, rfl, ho, hb⟩; have HO := Aside0.mk ho; have HB := Aside0.mk hb; clear ho hb)
        go_loopg [6, 8, 27] l0.length (fun gg s6 _ s27 wr => ∃ kk : Nat, kk ≤ l0.length ∧ l0.length - kk ≤ gg ∧ Aside0 (Kd.R Kd.string 9 wr w.heap.size (fun _ => True) s6 (l0.take kk).flatten) ∧ s27 = .int .i64 kk ∧ Aside0 (Below w.heap.size w wr))
        case atStart => exact ⟨0, Nat.zero_le _, by omega, by simpa using HO, rfl, HB⟩
        case round =>
          obtain ⟨kk, hkk, hg, HO1, rfl, HB1⟩ := hrel
          by_cases hlt : kk < l0.length
          · have hltz : (kk : Int) < (l0.length : Int) := by omega
            obtain ⟨ad, A1, c1, rfl, hcell, hl1, hC1⟩ := at_rows (Kd.C_below HR0.out HB1.out) kk hlt
            have hsuc : (l0.take (kk + 1)).flatten = (l0.take kk).flatten ++ l0[kk] := by rw [take_succ_at l0 kk hlt, List.flatten_append]; simp
            have hlen : (l0.take kk).flatten.length + (l0[kk]).length < 8796093022208 := by
              have h1 := sumLen_take_le l0 (kk + 1)
              have h2 := flat_length (l0.take (kk + 1))
              rw [hsuc, List.length_append] at h2
              have := HS.out
              omega
            have HSUC := Aside0.mk hsuc
            have HLEN := Aside0.mk hlen
            have HC1 := Aside0.mk hC1
            obtain ⟨y, hy⟩ : ∃ y, y = l0[kk] := ⟨_, rfl⟩
            rw [← hy] at HSUC HLEN HC1 hcell
            clear hsuc hlen hl1 hC1 hy
            obtain ⟨pre, hp⟩ : ∃ y, y = (l0.take kk).flatten := ⟨_, rfl⟩
            rw [← hp] at HSUC HLEN HO1
            clear hp
            obtain ⟨A6, c6, rfl⟩ := Kd.R_slice HO1.out
            go_wp2_with (at_builtin; refine Kd.R_append_rows Kd.string (w0 := w) w.heap.size rfl _ _ 22 9 (.string ⟨#[]⟩) 16 rfl Tryd.underlying22 info9 rfl (by decide) (by omega) (.slice A6 pre.length c6) pre y _ _ _ (fun _ => True) (fun _ => False) rfl rfl HO1.out HC1.out (fun _ _ h => h) (fun _ h => h.elim) (fun _ _ => trivial) HB1.out (Below.size HB1.out) (by have := HLEN.out; omega) ?_; intro v1 w2 ho hb _ _; have HO2 := Aside0.mk ho; have HB2 := Aside0.mk hb; clear ho hb)
            go_roundg (l0.length - (kk + 1))
            case measure => omega
            case rel => exact ⟨kk + 1, by omega, by omega, ⟨by rw [HSUC.out]; exact HO2.out⟩, by go_num, HB2⟩
          · have hltz : ¬ (kk : Int) < (l0.length : Int) := by omega
            have hk : kk = l0.length := by omega
            have HK := Aside0.mk hk
            clear hk
            go_wp2
            go_ret
            refine ⟨_, rfl, ?_, HB1.out⟩
            rw [← HF.out]
            have h := HO1.out
            rw [HK.out, List.take_length] at h
            exact h
  · cases h
end Go.Proofs.YtiledjckdnkjgaaDoor.Pr
