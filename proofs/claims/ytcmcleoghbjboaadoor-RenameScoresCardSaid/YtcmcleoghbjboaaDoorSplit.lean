/- strings.Split at one line feed: the parts between the line feeds. -/
import Derived.Test.YtcmcleoghbjboaaDoorCount
import Derived.Test.YtcmcleoghbjboaaDoorParts
namespace Go.Proofs.YtcmcleoghbjboaaDoor.Pr
open Go.RowKit Go.Proofs.YtcmcleoghbjboaaDoorW.PrintWords Go.Proofs.YtcmcleoghbjboaaDoorW.PrintLast Go.Proofs.YtcmcleoghbjboaaDoorW.PrintMore
set_option linter.unusedVariables false
set_option linter.unusedSimpArgs false

/-- The parts between the bytes 10. -/
def cutG : List UInt8 → List UInt8 → List (List UInt8)
  | cur, [] => [cur]
  | cur, b :: l => if b = 10 then cur :: cutG [] l else cutG (cur ++ [b]) l
theorem cutG_none : ∀ (l cur : List UInt8), (10 : UInt8) ∉ l → cutG cur l = [cur ++ l]
  | [], cur, _ => by simp [cutG]
  | b :: l, cur, h => by
    have h1 : ¬ b = 10 := fun e => h (by simp [e])
    have h2 : (10 : UInt8) ∉ l := fun e => h (by simp [e])
    rw [cutG, if_neg h1, cutG_none l _ h2, List.append_assoc]
    rfl
theorem cutG_hit : ∀ (a r cur : List UInt8), (10 : UInt8) ∉ a → cutG cur (a ++ 10 :: r) = (cur ++ a) :: cutG [] r
  | [], r, cur, _ => by simp [cutG]
  | b :: a, r, cur, h => by
    have h1 : ¬ b = 10 := fun e => h (by simp [e])
    have h2 : (10 : UInt8) ∉ a := fun e => h (by simp [e])
    rw [List.cons_append, cutG, if_neg h1, cutG_hit a r _ h2, List.append_assoc]
    rfl
theorem indexByte_hit : ∀ (a r : List UInt8), (10 : UInt8) ∉ a → Go.Lib.indexByte (a ++ 10 :: r) 10 = (a.length : Int)
  | [], r, _ => by simp [Go.Lib.indexByte]
  | b :: a, r, h => by
    have h1 : (b == (10 : UInt8)) = false := by
      rw [beq_eq_false_iff_ne]
      exact fun e => h (by simp [e])
    have h2 : (10 : UInt8) ∉ a := fun e => h (by simp [e])
    have ih := indexByte_hit a r h2
    rw [List.cons_append, Go.Lib.indexByte, h1, ih]
    rw [if_neg (by simp), if_neg (by rw [beq_iff_eq]; omega), List.length_cons]
    omega
theorem splitK_cut : ∀ (k : Nat) (l : List UInt8), l.count 10 = k → Go.Lib.splitK [10] 0 k l = cutG [] l
  | 0, l, h => by
    have : (10 : UInt8) ∉ l := List.count_eq_zero.1 h
    rw [cutG_none l [] this]
    rfl
  | k + 1, l, h => by
    have hm : (10 : UInt8) ∈ l := List.count_pos_iff.1 (by omega)
    obtain ⟨a, r, rfl, ha⟩ := List.eq_append_cons_of_mem hm
    have h0 := List.count_eq_zero.2 ha
    rw [List.count_append, List.count_cons_self, h0] at h
    have hi := indexByte_hit a r ha
    rw [Go.Lib.splitK, Go.Lib.index_one, hi, if_neg (by rw [beq_iff_eq]; omega), cutG_hit a r [] ha, splitK_cut k _ (by simp; omega)]
    congr 1
    · simp
    · congr 1
      rw [Int.toNat_natCast, List.drop_append]
      simp
theorem partsOf_cut : ∀ (l cur : List UInt8), partsOf (cur.map fun b => (b.toNat : Int)) (l.map fun b => (b.toNat : Int)) = (cutG cur l).map fun x => x.map fun b => (b.toNat : Int)
  | [], cur => rfl
  | b :: l, cur => by
    have e : ((b.toNat : Int) = 10) ↔ b = 10 := by
      constructor
      · intro h
        apply UInt8.toNat_inj.1
        have : b.toNat = 10 := by omega
        rw [this]
        rfl
      · rintro rfl
        rfl
    rw [List.map_cons, partsOf, cutG]
    by_cases h : b = 10
    · rw [if_pos h, if_pos (e.2 h), List.map_cons]
      have := partsOf_cut l []
      rw [List.map_nil] at this
      rw [this]
    · rw [if_neg h, if_neg (fun h2 => h (e.1 h2))]
      have := partsOf_cut l (cur ++ [b])
      rw [List.map_append] at this
      exact this
theorem strOfNums_map (x : List UInt8) : strOfNums (x.map fun b => (b.toNat : Int)) = ⟨x.toArray⟩ := by
  unfold strOfNums
  congr 2
  rw [List.map_map]
  conv => rhs; rw [← List.map_id x]
  apply List.map_congr_left
  intro b _
  simp
/-- The parts between the line feeds of a string. -/
def partsB (s : ByteArray) : List ByteArray := (partsOf [] (bytesOf s)).map strOfNums
theorem partsB_cut (s : ByteArray) : partsB s = (cutG [] s.data.toList).map fun x => ⟨x.toArray⟩ := by
  unfold partsB bytesOf
  have := partsOf_cut s.data.toList []
  rw [List.map_nil] at this
  rw [this, List.map_map]
  apply List.map_congr_left
  intro x _
  exact strOfNums_map x
theorem splitB_parts (s : ByteArray) : Go.Lib.splitB ⟨#[10]⟩ 0 (Go.Lib.countB s ⟨#[10]⟩) s = partsB s := by
  have h := Go.Lib.splitB_data ⟨#[10]⟩ 0 (Go.Lib.countB s ⟨#[10]⟩) s
  have hc : Go.Lib.countB s ⟨#[10]⟩ = s.data.toList.count 10 := Go.Lib.count_one 10 s.data.toList
  have h2 := splitK_cut _ s.data.toList hc.symm
  rw [partsB_cut, ← h2]
  have e : (⟨#[10]⟩ : ByteArray).data.toList = [10] := rfl
  rw [e] at h
  rw [← h, List.map_map]
  conv => lhs; rw [← List.map_id (Go.Lib.splitB ⟨#[10]⟩ 0 (Go.Lib.countB s ⟨#[10]⟩) s)]
  apply List.map_congr_left
  intro x _
  rfl
theorem partsB_length (s : ByteArray) : (partsB s).length = s.data.toList.count 10 + 1 := by
  unfold partsB
  rw [List.length_map, partsOf_length]
  congr 1
  have h := feedy_count s
  unfold bytesOf
  induction s.data.toList with
  | nil => rfl
  | cons b l ih =>
    rw [List.map_cons, List.count_cons, List.count_cons, ih]
    congr 1
    by_cases e : b = 10
    · subst e
      rfl
    · rw [if_neg (by
        rw [beq_iff_eq]
        intro h2
        apply e
        apply UInt8.toNat_inj.1
        have : b.toNat = 10 := by omega
        rw [this]
        rfl), if_neg (by simpa using e)]

theorem split_calls (s : ByteArray) (w : World) (hs : s.size < 4294967281) :
    Calls Tryd.prog 18 #[.string s, .string ⟨#[10]⟩] w fun e w' =>
      e = .returned (.slice (some ⟨w.heap.size, 0, none⟩) (partsB s).length (partsB s).length) ∧ w' = w.alloc (.cells ((partsB s).map Value.string).toArray 9) := by
  have hsep : (1 : Nat) ≤ (⟨#[10]⟩ : ByteArray).size := by decide
  have hle := Go.Lib.countB_le ⟨#[10]⟩ hsep s.size s (Nat.le_refl _)
  have hlen := Go.Lib.splitB_all ⟨#[10]⟩ hsep 0 _ s rfl
  have hI : ∀ (x : ByteArray) (W : World), Calls Tryd.prog 35 #[.string x, .string ⟨#[10]⟩] W fun e w' => e = .returned (.int .i64 (Go.Lib.indexB x ⟨#[10]⟩)) ∧ w' = W := by
    intro x W
    have e : Go.Lib.indexB x ⟨#[10]⟩ = Go.Lib.indexByte x.data.toList 10 := Go.Lib.index_one x.data.toList 10
    rw [e]
    exact Tryd.strings_Index_one x 10 W
  have hC : Calls Tryd.prog 34 #[.string s, .string ⟨#[10]⟩] w fun e w' => e = .returned (.int .i64 (Go.Lib.countB s ⟨#[10]⟩)) ∧ w' = w := by
    have e : Go.Lib.countB s ⟨#[10]⟩ = Go.Lib.countByte s.data.toList 10 := Go.Lib.count_one 10 s.data.toList
    rw [e]
    exact Tryd.strings_Count_one s 10 w
  have c := Any.strings_genSplit_core Tryd.lays221 (by kernel_rfl) s ⟨#[10]⟩ 0 (-1) (Go.Lib.countB s ⟨#[10]⟩ + 1) w hs hsep (Nat.zero_le _) (fun x c _ => hI x _) hC (by decide) (by decide) (by rw [if_pos (by decide)]; omega)
  rw [Nat.add_sub_cancel, hlen] at c
  have e2 : Go.Lib.cellsOf (Go.Lib.splitB ⟨#[10]⟩ 0 (Go.Lib.countB s ⟨#[10]⟩) s) (Go.Lib.countB s ⟨#[10]⟩ + 1) = ((Go.Lib.splitB ⟨#[10]⟩ 0 (Go.Lib.countB s ⟨#[10]⟩) s).map Value.string).toArray := by rw [← hlen]; exact Go.Lib.cellsOf_full _
  rw [e2, ← hlen, splitB_parts] at c
  have c' : Calls Tryd.prog 28 #[.string s, .string ⟨#[10]⟩, .int .i64 0, .int .i64 (-1)] w fun e w' =>
      e = .returned (.slice (some ⟨w.heap.size, 0, none⟩) (partsB s).length (partsB s).length) ∧ w' = w.alloc (.cells ((partsB s).map Value.string).toArray 9) := c
  clear c e2 hC hI hle hlen hsep
  generalize partsB s = ps at c' ⊢
  go_enter Tryd.func18, Tryd.ntmps18
  go_wp2_with (go_at_call 28; refine c'.mono ?_; rintro e w' ⟨rfl, hw⟩; rw [hw])
  go_ret
  exact ⟨rfl, rfl⟩

def strings_Split.f (a0 : ByteArray) (a1 : ByteArray) : Option (List ByteArray) := if a1.data.toList = [10] ∧ a0.size < 4294967281 then some (partsB a0) else none
theorem strings_Split.calls (a0 : ByteArray) (a1 : ByteArray) (r : List ByteArray) (w : World) (h : strings_Split.f a0 a1 = some r) :
    Calls Tryd.prog 18 #[.string a0, .string a1] w fun e w' => ∃ v0_ : Value, e = .returned (v0_) ∧ Kd.R Kd.string 9 w' w.heap.size (fun _ => True) v0_ r ∧ Below w.heap.size w w' := by
  unfold strings_Split.f at h
  split at h
  · rename_i hh
    obtain ⟨h1, h2⟩ := hh
    obtain rfl : a1 = ⟨#[10]⟩ := Go.WideShapes.bytes_inj h1
    injection h with h
    have hlen : (partsB a0).length ≤ 4294967281 := by
      rw [partsB_length]
      have := List.count_le_length (a := (10 : UInt8)) (l := a0.data.toList)
      have e : a0.data.toList.length = a0.size := rfl
      omega
    refine (split_calls a0 w h2).mono ?_
    rintro e w' ⟨rfl, rfl⟩
    subst h
    refine ⟨_, rfl, ?_, below_alloc (Below.refl _ _) _⟩
    refine Kd.R_of_own (h1 := fun _ => rfl) ?_ (fun _ _ => trivial)
    have := World.ownsRow_lit (e := 9) (base := w.heap.size) (size := 1) w ((partsB a0).map Value.string).toArray (partsB a0).length (Nat.le_refl _) (by unfold maxLen; omega) (by simp)
    simpa [encs] using this
  · cases h
end Go.Proofs.YtcmcleoghbjboaaDoor.Pr
