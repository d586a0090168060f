/- The plain side of texts: Check, Split and Join of the program and of the reference; what was split, joined; what was joined, split. -/
import Derived.Test.YtcmcleoghbjboaaDoorSplit
import Derived.Test.YtcmcleoghbjboaaDoorJoin
import Derived.Test.YtcmcleoghbjboaaDoorSFed
import Derived.Test.YtcmcleoghbjboaaDoorF11
import Derived.Test.YtcmcleoghbjboaaDoorF8
namespace Go.Proofs.YtcmcleoghbjboaaDoor.Pr
open Go.RowKit Go.Proofs.YtcmcleoghbjboaaDoorW.PrintWords Go.Proofs.YtcmcleoghbjboaaDoorW.PrintLast Go.Proofs.YtcmcleoghbjboaaDoorW.PrintMore
set_option linter.unusedVariables false
set_option linter.unusedSimpArgs false

theorem bytesOf_strOf (l : List Int) (h : u8s l = true) : bytesOf (strOfNums l) = l := by
  have hm := u8s_mem h
  clear h
  unfold bytesOf strOfNums
  show (List.map (fun b : UInt8 => (b.toNat : Int)) (List.map (fun n : Int => UInt8.ofNat n.toNat) l)) = l
  rw [List.map_map]
  conv => rhs; rw [← List.map_id l]
  apply List.map_congr_left
  intro x hx
  have := hm x hx
  simp only [Function.comp, UInt8.toNat_ofNat', id]
  omega
theorem strOf_bytesOf (s : ByteArray) : strOfNums (bytesOf s) = s := by
  have := strOfNums_map s.data.toList
  unfold bytesOf
  rw [this]
theorem strOf_inj {a b : List Int} (ha : u8s a = true) (hb : u8s b = true) : (strOfNums a).toList = (strOfNums b).toList ↔ a = b := by
  constructor
  · intro h
    have := toList_inj.1 h
    rw [← bytesOf_strOf a ha, ← bytesOf_strOf b hb, this]
  · rintro rfl
    rfl
/-- The error of a text. -/
def textErr (l : List Int) : Int := if 2000 < l.length then 4 else if 60 ≤ l.count 10 then 4 else 0
theorem textErr_zero {l : List Int} (h : textErr l = 0) : l.length ≤ 2000 ∧ l.count 10 < 60 := by
  unfold textErr at h
  split at h
  · cases h
  · split at h
    · cases h
    · omega
theorem tcheck_val (l : List Int) (h : u8s l = true) : lines_Check.f l = some (textErr l) := by
  unfold lines_Check.f textErr bytes_Count.f
  by_cases h1 : 2000 < l.length
  · rw [if_pos h1, if_pos (by omega)]
  · rw [if_neg h1, if_neg (by omega), if_pos ⟨rfl, h⟩, Option.bind_some]
    by_cases h2 : 60 ≤ l.count 10
    · rw [if_pos h2, if_pos (by omega)]
    · rw [if_neg h2, if_neg (by omega)]
theorem strOf_size (l : List Int) : (strOfNums l).size = l.length := by simp [strOfNums, ByteArray.size]
theorem split_val (l : List Int) (h : u8s l = true) : lines_Split.f l = some (if textErr l = 0 then ((partsOf [] l).map strOfNums, (0 : Int)) else (([] : List ByteArray), textErr l)) := by
  unfold lines_Split.f
  rw [tcheck_val l h, Option.bind_some]
  by_cases h1 : textErr l = 0
  · rw [if_pos h1, if_pos h1]
    obtain ⟨g1, g2⟩ := textErr_zero h1
    unfold strings_Split.f
    rw [if_pos ⟨rfl, by rw [strOf_size]; omega⟩, Option.bind_some]
    unfold partsB
    rw [bytesOf_strOf l h]
  · rw [if_neg h1, if_neg h1]
theorem rtcheck_ev (l : List Int) (hl : l.length ≤ 8796093000000) : Ev (fun k => sidingref13_Check.f k l) (textErr l) := by
  unfold sidingref13_Check.f textErr
  by_cases h1 : 2000 < l.length
  · rw [if_pos h1]
    exact Ev.pos (by omega) (Ev.now _)
  · rw [if_neg h1]
    refine Ev.neg (by omega) (Ev.bd (parts_ev l hl) ?_)
    rw [List.length_map, partsOf_length]
    by_cases h2 : 60 ≤ l.count 10
    · rw [if_pos h2]
      exact Ev.pos (by omega) (Ev.now _)
    · rw [if_neg h2]
      exact Ev.neg (by omega) (Ev.now _)
theorem joined_text : ∀ (l : List ByteArray), bytesOf (joined l) = textOf l
  | [] => rfl
  | [x] => by
    unfold bytesOf joined textOf fed
    simp [Go.Lib.join_one, bytesOf]
  | x :: y :: l => by
    have ih := joined_text (y :: l)
    unfold bytesOf joined at ih ⊢
    have e : Go.Lib.join (((x :: y :: l).map (·.data.toList))) [10] = x.data.toList ++ [10] ++ Go.Lib.join ((y :: l).map (·.data.toList)) [10] := by simp [Go.Lib.join, List.intercalate]
    rw [e]
    show List.map (fun b : UInt8 => (b.toNat : Int)) (x.data.toList ++ [10] ++ Go.Lib.join ((y :: l).map (·.data.toList)) [10]) = _
    rw [List.map_append, List.map_append]
    have ih2 : List.map (fun b : UInt8 => (b.toNat : Int)) (Go.Lib.join ((y :: l).map (·.data.toList)) [10]) = textOf (y :: l) := ih
    rw [ih2]
    unfold textOf fed
    simp [bytesOf]
theorem partsOf_nofeed : ∀ (l cur : List Int), (10 : Int) ∉ cur → ∀ p ∈ partsOf cur l, (10 : Int) ∉ p
  | [], cur, h, p, hp => by
    rw [partsOf, List.mem_singleton] at hp
    subst hp
    exact h
  | b :: l, cur, h, p, hp => by
    rw [partsOf] at hp
    by_cases e : b = 10
    · rw [if_pos e] at hp
      rcases List.mem_cons.1 hp with rfl | hp
      · exact h
      · exact partsOf_nofeed l [] (by simp) p hp
    · rw [if_neg e] at hp
      exact partsOf_nofeed l (cur ++ [b]) (by simp [h, Ne.symm e]) p hp
theorem partsOf_u8 : ∀ (l cur : List Int), u8s l = true → u8s cur = true → ∀ p ∈ partsOf cur l, u8s p = true
  | [], cur, _, h, p, hp => by
    rw [partsOf, List.mem_singleton] at hp
    subst hp
    exact h
  | b :: l, cur, hl, h, p, hp => by
    have hm := u8s_mem hl
    have hl' : u8s l = true := u8s_of fun x hx => hm x (by simp [hx])
    rw [partsOf] at hp
    by_cases e : b = 10
    · rw [if_pos e] at hp
      rcases List.mem_cons.1 hp with rfl | hp
      · exact h
      · exact partsOf_u8 l [] hl' rfl p hp
    · rw [if_neg e] at hp
      refine partsOf_u8 l (cur ++ [b]) hl' (u8s_of fun x hx => ?_) p hp
      rcases List.mem_append.1 hx with hx | hx
      · exact u8s_mem h x hx
      · rw [List.mem_singleton.1 hx]
        exact hm b (by simp)
theorem fed_parts : ∀ (l cur : List Int), ((partsOf cur l).map fun p => 10 :: p).flatten = 10 :: (cur ++ l)
  | [], cur => by simp [partsOf]
  | b :: l, cur => by
    rw [partsOf]
    by_cases e : b = 10
    · rw [if_pos e, List.map_cons, List.flatten_cons, fed_parts l [], e]
      simp
    · rw [if_neg e, fed_parts l (cur ++ [b])]
      simp
/-- What was split, as one text again. -/
theorem textOf_parts (l : List Int) (h : u8s l = true) : textOf ((partsOf [] l).map strOfNums) = l := by
  unfold textOf fed
  rw [List.map_map]
  have e : (partsOf [] l).map ((fun s => 10 :: bytesOf s) ∘ strOfNums) = (partsOf [] l).map fun p => 10 :: p := by
    apply List.map_congr_left
    intro p hp
    have := partsOf_u8 l [] h rfl p hp
    simp only [Function.comp]
    rw [bytesOf_strOf p this]
  rw [e, fed_parts]
  simp
theorem parts_linesErr (l : List Int) (h : u8s l = true) (he : textErr l = 0) : linesErr ((partsOf [] l).map strOfNums) = 0 := by
  obtain ⟨g1, g2⟩ := textErr_zero he
  have hlen : ((partsOf [] l).map strOfNums).length = l.count 10 + 1 := by rw [List.length_map, partsOf_length]
  have ht := textOf_length ((partsOf [] l).map strOfNums)
  rw [textOf_parts l h, hlen] at ht
  unfold linesErr
  rw [hlen, if_neg (by omega), if_neg (by omega), if_neg (by omega), if_neg]
  intro hf
  obtain ⟨s, hs, hf⟩ := List.any_eq_true.1 hf
  obtain ⟨p, hp, rfl⟩ := List.mem_map.1 hs
  rw [feedy_count, bytesOf_strOf p (partsOf_u8 l [] h rfl p hp), decide_eq_true_iff] at hf
  exact partsOf_nofeed l [] (by simp) p hp (List.count_pos_iff.1 hf)
theorem partsOf_hit : ∀ (a r cur : List Int), (10 : Int) ∉ a → partsOf cur (a ++ 10 :: r) = (cur ++ a) :: partsOf [] r
  | [], r, cur, _ => by simp [partsOf]
  | b :: a, r, cur, h => by
    have h1 : ¬ b = 10 := fun e => h (by simp [e])
    have h2 : (10 : Int) ∉ a := fun e => h (by simp [e])
    rw [List.cons_append, partsOf, if_neg h1, partsOf_hit a r _ h2, List.append_assoc]
    rfl
theorem partsOf_miss : ∀ (a cur : List Int), (10 : Int) ∉ a → partsOf cur a = [cur ++ a]
  | [], cur, _ => by simp [partsOf]
  | b :: a, cur, h => by
    have h1 : ¬ b = 10 := fun e => h (by simp [e])
    have h2 : (10 : Int) ∉ a := fun e => h (by simp [e])
    rw [partsOf, if_neg h1, partsOf_miss a _ h2, List.append_assoc]
    rfl
theorem feedy_not {s : ByteArray} (h : feedy s = false) : (10 : Int) ∉ bytesOf s := by
  rw [feedy_count, decide_eq_false_iff_not] at h
  intro hm
  exact h (List.count_pos_iff.2 hm)
/-- What was joined, split again. -/
theorem parts_text : ∀ (l : List ByteArray), l ≠ [] → l.any feedy = false → (partsOf [] (textOf l)).map strOfNums = l
  | [], h, _ => absurd rfl h
  | [x], _, hf => by
    have hx : feedy x = false := by simpa using hf
    have e : textOf [x] = bytesOf x := by simp [textOf, fed]
    rw [e, partsOf_miss _ _ (feedy_not hx)]
    simp [strOf_bytesOf]
  | x :: y :: l, _, hf => by
    have hx : feedy x = false := by
      have := List.any_eq_false.1 hf x (by simp)
      simpa using this
    have hl : (y :: l).any feedy = false := by
      rw [List.any_eq_false] at hf ⊢
      exact fun z hz => hf z (by simp [List.mem_cons.1 hz])
    have e : textOf (x :: y :: l) = bytesOf x ++ 10 :: textOf (y :: l) := by simp [textOf, fed]
    rw [e, partsOf_hit _ _ _ (feedy_not hx), List.map_cons, parts_text (y :: l) (by simp) hl, List.nil_append, strOf_bytesOf]
theorem text_err_of_lines (l : List ByteArray) (h : linesErr l = 0) : textErr (textOf l) = 0 := by
  obtain ⟨h1, h2, h3, h4⟩ := linesErr_zero h
  have hlen := textOf_length l
  have hp := parts_text l (by intro e; rw [e] at h3; simp at h3) h4
  have hc := congrArg List.length hp
  rw [List.length_map, partsOf_length] at hc
  unfold textErr
  rw [if_neg (by omega), if_neg (by omega)]
theorem u8s_text (l : List ByteArray) : u8s (textOf l) = true := by
  rw [← joined_text]
  exact u8s_bytesOf _
end Go.Proofs.YtcmcleoghbjboaaDoor.Pr
