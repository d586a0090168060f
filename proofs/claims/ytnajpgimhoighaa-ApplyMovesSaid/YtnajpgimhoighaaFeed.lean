/- The reference's Feed: whether a line has a line feed. -/
import Derived.Test.YtnajpgimhoighaaParts
namespace Go.Proofs.Ytnajpgimhoighaa.Pr
open Go.RowKit Go.Proofs.YtnajpgimhoighaaW.PrintWords Go.Proofs.YtnajpgimhoighaaW.PrintLast Go.Proofs.YtnajpgimhoighaaW.PrintMore
set_option linter.unusedVariables false
set_option linter.unusedSimpArgs false

def ref13_Feed.f (l0 : List ByteArray) : Option (Bool) := if (l0.all fun s => decide (s.size ≤ 8796093000000)) = true then some (l0.any feedy) else none
theorem feed_parts (s : ByteArray) : decide (((((partsOf [] (bytesOf s)).map strOfNums).length : Nat) : Int) > 1) = feedy s := by
  rw [feedy_count, List.length_map, partsOf_length, Bool.eq_iff_iff, decide_eq_true_iff, decide_eq_true_iff]
  omega

set_option maxHeartbeats 2000000 in
theorem ref13_Feed.calls (A0 : Option Addr) (c0 : Nat) (l0 : List ByteArray) (r : Bool) (w : World) (hr0 : Kd.C Kd.string w A0 l0.length l0) (hc0 : l0.length ≤ c0) (h : ref13_Feed.f l0 = some r) :
    Calls Try.prog 41 #[.slice A0 l0.length c0] w fun e w' => e = .returned (.bool r) ∧ Below w.heap.size w w' := by
  unfold ref13_Feed.f at h
  split at h
  · rename_i hsm
    have hsz : ∀ s ∈ l0, s.size ≤ 8796093000000 := fun s hs => of_decide_eq_true (List.all_eq_true.1 hsm s hs)
    obtain rfl : l0.any feedy = r := by injection h
    clear h hsm
    have hbig : l0.length ≤ 9223372036854775807 := hr0.2.1
    have HSZ := Aside0.mk hsz
    have HR0 := Aside0.mk hr0
    clear hsz hr0
    go_enter Try.func41, Try.ntmps41
    go_wp2
    go_loopg [3] l0.length (fun gg s3 wr => ∃ kk : Nat, kk ≤ l0.length ∧ l0.length - kk ≤ gg ∧ s3 = .int .i64 kk ∧ Aside0 (Below w.heap.size w wr) ∧ Aside0 (∀ j (hj : j < l0.length), j < kk → feedy (l0[j]'hj) = false))
    case atStart => exact ⟨0, Nat.zero_le _, by omega, rfl, ⟨Below.refl _ _⟩, ⟨fun j _ hj => absurd hj (Nat.not_lt_zero _)⟩⟩
    case round =>
      obtain ⟨kk, hkk, hg, rfl, HB, HN⟩ := hrel
      by_cases hlt : kk < l0.length
      · have hltz : (kk : Int) < (l0.length : Int) := by omega
        obtain ⟨ad, rfl, hcell⟩ := Kd.at_string (Kd.C_below HR0.out HB.out) (kk : Int) (by omega) (by omega)
        simp only [Int.toNat_natCast] at hcell
        have hy0 : rdOf ByteArray.empty l0 (kk : Int) = l0[kk] := by simp [rdOf, hlt]
        rw [hy0] at hcell
        obtain ⟨y, hy⟩ : ∃ y, y = l0[kk] := ⟨_, rfl⟩
        rw [← hy] at hcell
        have hys : y.size ≤ 8796093000000 := by rw [hy]; exact HSZ.out _ (List.getElem_mem hlt)
        have HYS := Aside0.mk hys
        have HY := Aside0.mk hy
        have hbl : (bytesOf y).length = y.size := bytesOf_length y
        obtain ⟨k, hk⟩ := (parts_ev (bytesOf y) (by rw [hbl]; exact hys)).rounds
        have hfp := feed_parts y
        obtain ⟨ps, eps⟩ : ∃ ps, ps = (partsOf [] (bytesOf y)).map strOfNums := ⟨_, rfl⟩
        rw [← eps] at hk hfp
        have HK := Aside0.mk hk
        have HF := Aside0.mk hfp
        have HBL := Aside0.mk hbl
        clear hk hfp eps hy hy0 hys hbl
        obtain ⟨pl, hpl⟩ : ∃ n, n = ps.length := ⟨_, rfl⟩
        have HPL := Aside0.mk hpl
        clear hpl
        have kb := fun W => print_bytes (P := Try.prog) 9 70 5 Try.underlying9 Try.underlying70 Try.underlying5 y W
        have hC : ∀ W : World, Calls Try.prog 51 #[.slice (some ⟨W.heap.size, 0, none⟩) y.size (grownCap W y.size 0 5)] (Lib.bytesWorld W 5 y) fun e w' => ∃ (A : Option Addr) (c : Nat), e = .returned (.slice A pl c) ∧ Below W.heap.size W w' := by
          intro W
          have h := sidingref13_Parts.calls k (some ⟨W.heap.size, 0, none⟩) (grownCap W y.size 0 5) (bytesOf y) ps (Lib.bytesWorld W 5 y) (by rw [HBL.out]; exact bytes_C W 5 y (by have := HYS.out; omega)) (by rw [HBL.out]; exact grownCap_ge _ _ _ _) HK.out
          rw [HBL.out] at h
          refine h.mono ?_
          rintro e w' ⟨v, rfl, hR, hb⟩
          obtain ⟨A, c, rfl⟩ := Kd.R_slice hR
          refine ⟨A, c, by rw [HPL.out], ?_⟩
          have hs : (Lib.bytesWorld W 5 y).heap.size = W.heap.size + 1 := Lib.bytesWorld_size W 5 y
          exact below_then (bytes_below (Below.refl W.heap.size W) (Nat.le_refl _) 5 y) (by omega) hb
        have HF' : decide ((pl : Int) > 1) = feedy y := by rw [HPL.out]; exact HF.out
        have HF2 := Aside0.mk HF'
        clear HF' HF
        by_cases h1 : 1 < pl
        · have h1i : (1 : Int) < (pl : Int) := by omega
          go_wp2_with (go_at_call 51; refine (hC _).mono ?_; rintro e w' ⟨A, c, rfl, hb⟩; have HB1 := Aside0.mk hb; clear hb)
          go_ret
          refine ⟨?_, below_then HB.out (Below.size HB.out) HB1.out⟩
          have : l0.any feedy = true := List.any_eq_true.2 ⟨y, by rw [HY.out]; exact List.getElem_mem hlt, by rw [← HF2.out]; exact decide_eq_true h1i⟩
          rw [this]
          rfl
        · have h1i : ¬ (1 : Int) < (pl : Int) := by omega
          go_wp2_with (go_at_call 51; refine (hC _).mono ?_; rintro e w' ⟨A, c, rfl, hb⟩; have HB1 := Aside0.mk hb; clear hb)
          go_roundg (l0.length - (kk + 1))
          case measure => omega
          case rel =>
            refine ⟨kk + 1, by omega, by omega, by go_num, ⟨below_then HB.out (Below.size HB.out) HB1.out⟩, ⟨fun j hjl hj => ?_⟩⟩
            by_cases e : j = kk
            · subst e
              rw [← HY.out, ← HF2.out]
              exact decide_eq_false (by omega)
            · exact HN.out j hjl (by omega)
      · have hltz : ¬ (kk : Int) < (l0.length : Int) := by omega
        have hk : kk = l0.length := by omega
        have HK := Aside0.mk hk
        clear hk
        go_wp2
        go_ret
        refine ⟨?_, HB.out⟩
        have : l0.any feedy = false := by
          rw [List.any_eq_false]
          intro s hs
          obtain ⟨j, hj, rfl⟩ := List.mem_iff_getElem.1 hs
          rw [HN.out j hj (by rw [HK.out]; exact hj)]
          simp
        rw [this]
        rfl
  · cases h
end Go.Proofs.Ytnajpgimhoighaa.Pr
