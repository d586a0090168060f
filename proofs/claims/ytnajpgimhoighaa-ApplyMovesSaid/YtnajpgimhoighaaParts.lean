/- The reference's Parts: the parts between the line feeds. -/
import Derived.Test.YtnajpgimhoighaaSLines
import Derived.Test.YtnajpgimhoighaaWk
import Derived.Test.YtnajpgimhoighaaF51
namespace Go.Proofs.Ytnajpgimhoighaa.Pr
open Go.RowKit Go.Proofs.YtnajpgimhoighaaW.PrintWords Go.Proofs.YtnajpgimhoighaaW.PrintLast Go.Proofs.YtnajpgimhoighaaW.PrintMore
set_option linter.unusedVariables false
set_option linter.unusedSimpArgs false

/-- The parts between the line feeds of bytes: what is open, what comes. -/
def partsOf : List Int → List Int → List (List Int)
  | cur, [] => [cur]
  | cur, b :: l => if b = 10 then cur :: partsOf [] l else partsOf (cur ++ [b]) l
theorem partsOf_length (l : List Int) : ∀ cur, (partsOf cur l).length = l.count 10 + 1 := by
  induction l with
  | nil => intro cur; rfl
  | cons b l ih =>
    intro cur
    by_cases h : b = 10
    · subst h
      simp [partsOf, ih]
    · simp [partsOf, ih, h]
theorem partsOf_ne (l cur : List Int) : partsOf cur l ≠ [] := by
  have := partsOf_length l cur
  intro h
  rw [h] at this
  simp at this

theorem parts_loop (l : List Int) (hl : l.length ≤ 8796093000000) : ∀ (d i f : Nat) (done : List ByteArray) (z : ByteArray), i + d = l.length → f ≤ i → done.length ≤ i →
    Ev (fun k => sidingref13_Parts.l0 k l (done ++ [z]) (f : Int) (i : Int)) (done ++ (partsOf ((l.take i).drop f) (l.drop i)).map strOfNums) := by
  intro d
  induction d with
  | zero =>
    intro i f done z hi hf hd
    obtain rfl : i = l.length := by omega
    refine Ev.step (fun k => by rw [sidingref13_Parts.l0]) ?_
    refine Ev.neg (by omega) (Ev.pos (by omega) (Ev.pos (by omega) ?_))
    have hlen : (done ++ [z]).length = done.length + 1 := by simp
    rw [hlen, w64 (by omega)]
    refine Ev.pos (by omega) (Ev.pos (by omega) (Ev.rt ?_))
    have e : ((((done.length + 1 : Nat) : Int) - 1).toNat) = done.length := by omega
    rw [e, List.set_append_right _ _ (Nat.le_refl _)]
    simp [partsOf]
  | succ d ih =>
    intro i f done z hi hf hd
    have hlt : i < l.length := by omega
    refine Ev.step (fun k => by rw [sidingref13_Parts.l0]) ?_
    refine Ev.pos (by omega) (Ev.pos (by omega) ?_)
    rw [rd_at l i hlt, w64 (x := (i : Int) + 1) (by omega)]
    have ht : (l.take (i + 1)).drop f = (l.take i).drop f ++ [l[i]] := by
      rw [take_succ_at l i hlt, List.drop_append_of_le_length (by rw [List.length_take]; omega)]
    by_cases hb : l[i] = 10
    · refine Ev.pos hb ?_
      refine Ev.pos (by omega) (Ev.pos (by omega) (Ev.pos (by omega) ?_))
      have hlen : (done ++ [z]).length = done.length + 1 := by simp
      rw [hlen, w64 (x := ((done.length + 1 : Nat) : Int) - 1) (by omega)]
      refine Ev.pos (by omega) (Ev.pos (by omega) (Ev.bs ?_))
      have e : ((((done.length + 1 : Nat) : Int) - 1).toNat) = done.length := by omega
      rw [e, List.set_append_right _ _ (Nat.le_refl _)]
      refine Ev.pos (by simp; omega) ?_
      have h := ih (i + 1) (i + 1) (done ++ [strOfNums ((l.take i).drop f)]) ⟨#[]⟩ (by omega) (Nat.le_refl _) (by simp; omega)
      have e2 : (l.take (i + 1)).drop (i + 1) = [] := List.drop_eq_nil_of_le (by rw [List.length_take]; omega)
      rw [e2] at h
      refine Ev.eq ?_ (by simpa using h)
      rw [drop_at l i hlt]
      simp [partsOf, hb]
    · refine Ev.neg hb ?_
      have h := ih (i + 1) f done z (by omega) (by omega) (by omega)
      rw [ht] at h
      refine Ev.eq ?_ (by simpa using h)
      rw [drop_at l i hlt]
      simp [partsOf, hb]
theorem parts_ev (l : List Int) (hl : l.length ≤ 8796093000000) : Ev (fun k => sidingref13_Parts.f k l) ((partsOf [] l).map strOfNums) := by
  unfold sidingref13_Parts.f
  have h := parts_loop l hl l.length 0 0 [] ⟨#[]⟩ (by omega) (Nat.le_refl _) (Nat.le_refl _)
  simpa using h

theorem feedy_count (s : ByteArray) : feedy s = decide (0 < (bytesOf s).count 10) := by
  unfold feedy bytesOf
  generalize s.data.toList = l
  rw [Bool.eq_iff_iff, decide_eq_true_iff, decide_eq_true_iff]
  induction l with
  | nil => simp [Go.Lib.indexByte]
  | cons b l ih =>
    by_cases h : b = 10
    · subst h
      simp [Go.Lib.indexByte]
    · have h2 : ¬ ((b.toNat : Int) = 10) := by
        intro h3
        apply h
        apply UInt8.toNat_inj.1
        have : b.toNat = 10 := by omega
        rw [this]
        rfl
      have h1 : (b == 10) = false := by simpa using h
      simp only [Go.Lib.indexByte, h1, List.map_cons, List.count_cons]
      rw [if_neg (by simp)]
      have h3 : (((b.toNat : Int)) == 10) = false := by simpa using h2
      rw [h3]
      by_cases h4 : Go.Lib.indexByte l 10 = -1
      · rw [h4]
        simp only [beq_self_eq_true, if_true]
        rw [h4] at ih
        simpa using ih
      · have h5 : (Go.Lib.indexByte l 10 == -1) = false := by simpa using h4
        rw [h5, if_neg (by simp)]
        have h6 : 0 ≤ Go.Lib.indexByte l 10 + 1 ↔ 0 ≤ Go.Lib.indexByte l 10 := by
          constructor
          · intro h7
            have := Go.Lib.indexByte l 10
            omega
          · intro h7
            omega
        simpa [h6] using ih

end Go.Proofs.Ytnajpgimhoighaa.Pr
