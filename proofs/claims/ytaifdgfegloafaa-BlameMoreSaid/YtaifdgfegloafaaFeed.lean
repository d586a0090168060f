/- The reference's Parts and Feed: how many parts, whether a line has a line feed. -/
import Derived.Test.YtaifdgfegloafaaSLines
import Derived.Test.YtaifdgfegloafaaWk
import Derived.Test.YtaifdgfegloafaaF39
namespace Go.Proofs.Ytaifdgfegloafaa.Pr
open Go.RowKit Go.Proofs.YtaifdgfegloafaaW.PrintWords Go.Proofs.YtaifdgfegloafaaW.PrintLast Go.Proofs.YtaifdgfegloafaaW.PrintMore
set_option linter.unusedVariables false
set_option linter.unusedSimpArgs false

/-- The parts between the line feeds of bytes: what is open, what comes. -/
def partsOf : List Int → List Int → List (List Int)
  | cur, [] => [cur]
  | cur, b :: l => if b = 10 then cur :: partsOf [] l else partsOf (cur ++ [b]) l
theorem partsOf_length (l : List Int) : ∀ cur, (partsOf cur l).length = l.count 10 + 1 := by
  induction l with
  | nil => intro cur; rfl
  | cons b l ih =>
    intro cur
    by_cases h : b = 10
    · subst h
      simp [partsOf, ih]
    · simp [partsOf, ih, h]
theorem partsOf_ne (l cur : List Int) : partsOf cur l ≠ [] := by
  have := partsOf_length l cur
  intro h
  rw [h] at this
  simp at this

theorem parts_loop (l : List Int) (hl : l.length ≤ 8796093000000) : ∀ (d i f : Nat) (done : List ByteArray) (z : ByteArray), i + d = l.length → f ≤ i → done.length ≤ i →
    Ev (fun k => sidingref13_Parts.l0 k l (done ++ [z]) (f : Int) (i : Int)) (done ++ (partsOf ((l.take i).drop f) (l.drop i)).map strOfNums) := by
  intro d
  induction d with
  | zero =>
    intro i f done z hi hf hd
    obtain rfl : i = l.length := by omega
    refine Ev.step (fun k => by rw [sidingref13_Parts.l0]) ?_
    refine Ev.neg (by omega) (Ev.pos (by omega) (Ev.pos (by omega) ?_))
    have hlen : (done ++ [z]).length = done.length + 1 := by simp
    rw [hlen, w64 (by omega)]
    refine Ev.pos (by omega) (Ev.pos (by omega) (Ev.rt ?_))
    have e : ((((done.length + 1 : Nat) : Int) - 1).toNat) = done.length := by omega
    rw [e, List.set_append_right _ _ (Nat.le_refl _)]
    simp [partsOf]
  | succ d ih =>
    intro i f done z hi hf hd
    have hlt : i < l.length := by omega
    refine Ev.step (fun k => by rw [sidingref13_Parts.l0]) ?_
    refine Ev.pos (by omega) (Ev.pos (by omega) ?_)
    rw [rd_at l i hlt, w64 (x := (i : Int) + 1) (by omega)]
    have ht : (l.take (i + 1)).drop f = (l.take i).drop f ++ [l[i]] := by
      rw [take_succ_at l i hlt, List.drop_append_of_le_length (by rw [List.length_take]; omega)]
    by_cases hb : l[i] = 10
    · refine Ev.pos hb ?_
      refine Ev.pos (by omega) (Ev.pos (by omega) (Ev.pos (by omega) ?_))
      have hlen : (done ++ [z]).length = done.length + 1 := by simp
      rw [hlen, w64 (x := ((done.length + 1 : Nat) : Int) - 1) (by omega)]
      refine Ev.pos (by omega) (Ev.pos (by omega) (Ev.bs ?_))
      have e : ((((done.length + 1 : Nat) : Int) - 1).toNat) = done.length := by omega
      rw [e, List.set_append_right _ _ (Nat.le_refl _)]
      refine Ev.pos (by simp; omega) ?_
      have h := ih (i + 1) (i + 1) (done ++ [strOfNums ((l.take i).drop f)]) ⟨#[]⟩ (by omega) (Nat.le_refl _) (by simp; omega)
      have e2 : (l.take (i + 1)).drop (i + 1) = [] := List.drop_eq_nil_of_le (by rw [List.length_take]; omega)
      rw [e2] at h
      refine Ev.eq ?_ (by simpa using h)
      rw [drop_at l i hlt]
      simp [partsOf, hb]
    · refine Ev.neg hb ?_
      have h := ih (i + 1) f done z (by omega) (by omega) (by omega)
      rw [ht] at h
      refine Ev.eq ?_ (by simpa using h)
      rw [drop_at l i hlt]
      simp [partsOf, hb]
theorem parts_ev (l : List Int) (hl : l.length ≤ 8796093000000) : Ev (fun k => sidingref13_Parts.f k l) ((partsOf [] l).map strOfNums) := by
  unfold sidingref13_Parts.f
  have h := parts_loop l hl l.length 0 0 [] ⟨#[]⟩ (by omega) (Nat.le_refl _) (Nat.le_refl _)
  simpa using h

theorem feedy_count (s : ByteArray) : feedy s = decide (0 < (bytesOf s).count 10) := by
  unfold feedy bytesOf
  generalize s.data.toList = l
  rw [Bool.eq_iff_iff, decide_eq_true_iff, decide_eq_true_iff]
  induction l with
  | nil => simp [Go.Lib.indexByte]
  | cons b l ih =>
    by_cases h : b = 10
    · subst h
      simp [Go.Lib.indexByte]
    · have h2 : ¬ ((b.toNat : Int) = 10) := by
        intro h3
        apply h
        apply UInt8.toNat_inj.1
        have : b.toNat = 10 := by omega
        rw [this]
        rfl
      have h1 : (b == 10) = false := by simpa using h
      simp only [Go.Lib.indexByte, h1, List.map_cons, List.count_cons]
      rw [if_neg (by simp)]
      have h3 : (((b.toNat : Int)) == 10) = false := by simpa using h2
      rw [h3]
      by_cases h4 : Go.Lib.indexByte l 10 = -1
      · rw [h4]
        simp only [beq_self_eq_true, if_true]
        rw [h4] at ih
        simpa using ih
      · have h5 : (Go.Lib.indexByte l 10 == -1) = false := by simpa using h4
        rw [h5, if_neg (by simp)]
        have h6 : 0 ≤ Go.Lib.indexByte l 10 + 1 ↔ 0 ≤ Go.Lib.indexByte l 10 := by
          constructor
          · intro h7
            have := Go.Lib.indexByte l 10
            omega
          · intro h7
            omega
        simpa [h6] using ih

def ref13_Feed.f (l0 : List ByteArray) : Option (Bool) := if (l0.all fun s => decide (s.size ≤ 8796093000000)) = true then some (l0.any feedy) else none
theorem feed_parts (s : ByteArray) : decide (((((partsOf [] (bytesOf s)).map strOfNums).length : Nat) : Int) > 1) = feedy s := by
  rw [feedy_count, List.length_map, partsOf_length, Bool.eq_iff_iff, decide_eq_true_iff, decide_eq_true_iff]
  omega

set_option maxHeartbeats 2000000 in
theorem ref13_Feed.calls (A0 : Option Addr) (c0 : Nat) (l0 : List ByteArray) (r : Bool) (w : World) (hr0 : Kd.C Kd.string w A0 l0.length l0) (hc0 : l0.length ≤ c0) (h : ref13_Feed.f l0 = some r) :
    Calls Try.prog 32 #[.slice A0 l0.length c0] w fun e w' => e = .returned (.bool r) ∧ Below w.heap.size w w' := by
  unfold ref13_Feed.f at h
  split at h
  · rename_i hsm
    have hsz : ∀ s ∈ l0, s.size ≤ 8796093000000 := fun s hs => of_decide_eq_true (List.all_eq_true.1 hsm s hs)
    obtain rfl : l0.any feedy = r := by injection h
    clear h hsm
    have hbig : l0.length ≤ 9223372036854775807 := hr0.2.1
    have HSZ := Aside0.mk hsz
    have HR0 := Aside0.mk hr0
    clear hsz hr0
    go_enter Try.func32, Try.ntmps32
    go_wp2
    go_loopg [3] l0.length (fun gg s3 wr => ∃ kk : Nat, kk ≤ l0.length ∧ l0.length - kk ≤ gg ∧ s3 = .int .i64 kk ∧ Aside0 (Below w.heap.size w wr) ∧ Aside0 (∀ j (hj : j < l0.length), j < kk → feedy (l0[j]'hj) = false))
    case atStart => exact ⟨0, Nat.zero_le _, by omega, rfl, ⟨Below.refl _ _⟩, ⟨fun j _ hj => absurd hj (Nat.not_lt_zero _)⟩⟩
    case round =>
      obtain ⟨kk, hkk, hg, rfl, HB, HN⟩ := hrel
      by_cases hlt : kk < l0.length
      · have hltz : (kk : Int) < (l0.length : Int) := by omega
        obtain ⟨ad, rfl, hcell⟩ := Kd.at_string (Kd.C_below HR0.out HB.out) (kk : Int) (by omega) (by omega)
        simp only [Int.toNat_natCast] at hcell
        have hy0 : rdOf ByteArray.empty l0 (kk : Int) = l0[kk] := by simp [rdOf, hlt]
        rw [hy0] at hcell
        obtain ⟨y, hy⟩ : ∃ y, y = l0[kk] := ⟨_, rfl⟩
        rw [← hy] at hcell
        have hys : y.size ≤ 8796093000000 := by rw [hy]; exact HSZ.out _ (List.getElem_mem hlt)
        have HYS := Aside0.mk hys
        have HY := Aside0.mk hy
        have hbl : (bytesOf y).length = y.size := bytesOf_length y
        obtain ⟨k, hk⟩ := (parts_ev (bytesOf y) (by rw [hbl]; exact hys)).rounds
        have hfp := feed_parts y
        obtain ⟨ps, eps⟩ : ∃ ps, ps = (partsOf [] (bytesOf y)).map strOfNums := ⟨_, rfl⟩
        rw [← eps] at hk hfp
        have HK := Aside0.mk hk
        have HF := Aside0.mk hfp
        have HBL := Aside0.mk hbl
        clear hk hfp eps hy hy0 hys hbl
        obtain ⟨pl, hpl⟩ : ∃ n, n = ps.length := ⟨_, rfl⟩
        have HPL := Aside0.mk hpl
        clear hpl
        have kb := fun W => print_bytes (P := Try.prog) 9 62 5 Try.underlying9 Try.underlying62 Try.underlying5 y W
        have hC : ∀ W : World, Calls Try.prog 39 #[.slice (some ⟨W.heap.size, 0, none⟩) y.size (grownCap W y.size 0 5)] (Lib.bytesWorld W 5 y) fun e w' => ∃ (A : Option Addr) (c : Nat), e = .returned (.slice A pl c) ∧ Below W.heap.size W w' := by
          intro W
          have h := sidingref13_Parts.calls k (some ⟨W.heap.size, 0, none⟩) (grownCap W y.size 0 5) (bytesOf y) ps (Lib.bytesWorld W 5 y) (by rw [HBL.out]; exact bytes_C W 5 y (by have := HYS.out; omega)) (by rw [HBL.out]; exact grownCap_ge _ _ _ _) HK.out
          rw [HBL.out] at h
          refine h.mono ?_
          rintro e w' ⟨v, rfl, hR, hb⟩
          obtain ⟨A, c, rfl⟩ := Kd.R_slice hR
          refine ⟨A, c, by rw [HPL.out], ?_⟩
          have hs : (Lib.bytesWorld W 5 y).heap.size = W.heap.size + 1 := Lib.bytesWorld_size W 5 y
          exact below_then (bytes_below (Below.refl W.heap.size W) (Nat.le_refl _) 5 y) (by omega) hb
        have HF' : decide ((pl : Int) > 1) = feedy y := by rw [HPL.out]; exact HF.out
        have HF2 := Aside0.mk HF'
        clear HF' HF
        by_cases h1 : 1 < pl
        · have h1i : (1 : Int) < (pl : Int) := by omega
          go_wp2_with (go_at_call 39; refine (hC _).mono ?_; rintro e w' ⟨A, c, rfl, hb⟩; have HB1 := Aside0.mk hb; clear hb)
          go_ret
          refine ⟨?_, below_then HB.out (Below.size HB.out) HB1.out⟩
          have : l0.any feedy = true := List.any_eq_true.2 ⟨y, by rw [HY.out]; exact List.getElem_mem hlt, by rw [← HF2.out]; exact decide_eq_true h1i⟩
          rw [this]
          rfl
        · have h1i : ¬ (1 : Int) < (pl : Int) := by omega
          go_wp2_with (go_at_call 39; refine (hC _).mono ?_; rintro e w' ⟨A, c, rfl, hb⟩; have HB1 := Aside0.mk hb; clear hb)
          go_roundg (l0.length - (kk + 1))
          case measure => omega
          case rel =>
            refine ⟨kk + 1, by omega, by omega, by go_num, ⟨below_then HB.out (Below.size HB.out) HB1.out⟩, ⟨fun j hjl hj => ?_⟩⟩
            by_cases e : j = kk
            · subst e
              rw [← HY.out, ← HF2.out]
              exact decide_eq_false (by omega)
            · exact HN.out j hjl (by omega)
      · have hltz : ¬ (kk : Int) < (l0.length : Int) := by omega
        have hk : kk = l0.length := by omega
        have HK := Aside0.mk hk
        clear hk
        go_wp2
        go_ret
        refine ⟨?_, HB.out⟩
        have : l0.any feedy = false := by
          rw [List.any_eq_false]
          intro s hs
          obtain ⟨j, hj, rfl⟩ := List.mem_iff_getElem.1 hs
          rw [HN.out j hj (by rw [HK.out]; exact hj)]
          simp
        rw [this]
        rfl
  · cases h
end Go.Proofs.Ytaifdgfegloafaa.Pr
