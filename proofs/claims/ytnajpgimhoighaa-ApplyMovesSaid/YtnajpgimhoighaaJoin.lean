/- lines.Join: the text of a list of lines, or its error. -/
import Derived.Test.YtnajpgimhoighaaSLines
import Derived.Test.YtnajpgimhoighaaWk
import Derived.Test.YtnajpgimhoighaaShelf
import Derived.Lib.Join
namespace Go.Proofs.Ytnajpgimhoighaa.Pr
open Go.RowKit Go.Proofs.YtnajpgimhoighaaW.PrintWords Go.Proofs.YtnajpgimhoighaaW.PrintLast Go.Proofs.YtnajpgimhoighaaW.PrintMore
set_option linter.unusedVariables false
set_option linter.unusedSimpArgs false

/-- Lines with line feeds between them. -/
def joined (l : List ByteArray) : ByteArray := ⟨(Go.Lib.join (l.map (·.data.toList)) [10]).toArray⟩
def smallB (l : List ByteArray) : Bool := l.all fun s => decide (s.size ≤ 140737488351232)
theorem small_of_B {l : List ByteArray} (h : smallB l = true) : small l := fun s hs => of_decide_eq_true (List.all_eq_true.1 h s hs)
theorem B_of_small {l : List ByteArray} (h : small l) : smallB l = true := List.all_eq_true.2 fun s hs => decide_eq_true (h s hs)
theorem join_length (sep : UInt8) : ∀ l : List (List UInt8), (Go.Lib.join l [sep]).length = (l.map List.length).sum + (l.length - 1)
  | [] => by simp [Go.Lib.join]
  | [x] => by simp [Go.Lib.join_one]
  | x :: y :: l => by
    have h := join_length sep (y :: l)
    have e : Go.Lib.join (x :: y :: l) [sep] = x ++ [sep] ++ Go.Lib.join (y :: l) [sep] := by simp [Go.Lib.join, List.intercalate]
    rw [e, List.length_append, List.length_append, h]
    simp
    omega
theorem joined_size (l : List ByteArray) : (joined l).size = bytesIn l + (l.length - 1) := by
  have h := join_length 10 (l.map (·.data.toList))
  have e : ∀ m : List UInt8, (ByteArray.mk m.toArray).size = m.length := fun m => by simp [ByteArray.size]
  unfold joined
  rw [e, h]
  simp [bytesIn]
  congr 2
theorem linesErr_zero {l : List ByteArray} (h : linesErr l = 0) : l.length ≤ 60 ∧ bytesIn l + l.length ≤ 2001 ∧ 0 < l.length ∧ l.any feedy = false := by
  unfold linesErr at h
  split at h
  · simp at h
  · split at h
    · simp at h
    · split at h
      · simp at h
      · split at h
        · simp at h
        · rename_i h1 h2 h3 h4
          exact ⟨by omega, by omega, by omega, Bool.eq_false_iff.2 h4⟩

def lines_Join.f (l0 : List ByteArray) : Option (List Int × Int) := if smallB l0 = true then some (if linesErr l0 = 0 then (bytesOf (joined l0), 0) else ([], linesErr l0)) else none

theorem join_val (l : List ByteArray) (hs : small l) : lines_Join.f l = some (if linesErr l = 0 then (bytesOf (joined l), (0 : Int)) else (([] : List Int), linesErr l)) := by
  unfold lines_Join.f
  rw [if_pos (B_of_small hs)]
theorem join_str (A0 : Option Addr) (c0 : Nat) (l0 : List ByteArray) (w : World) (hr0 : Kd.C Kd.string w A0 l0.length l0) (hc0 : l0.length ≤ c0) (he : linesErr l0 = 0) :
    Calls Try.prog 50 #[.slice A0 l0.length c0, .string ⟨#[10]⟩] w fun e w' => e = .returned (.string (joined l0)) ∧ Below w.heap.size w w' := by
  obtain ⟨h1, h2, h3, _⟩ := linesErr_zero he
  obtain ⟨b, o, rfl, hb, hc⟩ := C_strings hr0 h3
  have hj := joined_size l0
  refine Try.strings_Join b o c0 l0 ⟨#[10]⟩ w hc hb (by omega) hc0 ?_
  have e : (Go.Lib.join (l0.map (·.data.toList)) [10]).length = (joined l0).size := by simp [joined, ByteArray.size]
  show (Go.Lib.join (l0.map (·.data.toList)) [10]).length ≤ 140737488355328
  omega

set_option maxHeartbeats 2000000 in
theorem lines_Join.calls (A0 : Option Addr) (c0 : Nat) (l0 : List ByteArray) (r1 : List Int) (r2 : Int) (w : World) (hr0 : Kd.C Kd.string w A0 l0.length l0) (hc0 : l0.length ≤ c0) (h : lines_Join.f l0 = some (r1, r2)) :
    Calls Try.prog 38 #[.slice A0 l0.length c0] w fun e w' => ∃ v0_ : Value, e = .returned (.tuple #[v0_, .int .i64 r2]) ∧ Kd.V (Kd.int .u8) 5 w' w.heap.size (fun k_ => (w.heap.size ≤ k_)) v0_ r1 ∧ Below w.heap.size w w' := by
  unfold lines_Join.f at h
  split at h
  · rename_i hsm
    have hs := small_of_B hsm
    injection h with h
    obtain ⟨k, hk⟩ := (check_ev l0 hs).rounds
    by_cases he : linesErr l0 = 0
    · rw [if_pos he] at h
      injection h with h1 h2
      subst h1
      subst h2
      rw [he] at hk
      have HK := Aside0.mk hk
      have HR := Aside0.mk hr0
      have HC := Aside0.mk hc0
      have HE := Aside0.mk he
      obtain ⟨g1, g2, g3, _⟩ := linesErr_zero he
      have HS := Aside0.mk (show (joined l0).size ≤ 9223372036854775807 by have := joined_size l0; omega)
      clear hk hr0 hc0 he hs hsm g1 g2 g3
      obtain ⟨s, es⟩ : ∃ s, s = joined l0 := ⟨_, rfl⟩
      have ES := Aside0.mk es
      clear es
      have kb := fun W => print_bytes (P := Try.prog) 9 70 5 Try.underlying9 Try.underlying70 Try.underlying5 s W
      go_enter Try.func38, Try.ntmps38
      go_wp2_with (first
        | (go_at_call 49; refine (lines_check.calls k A0 c0 l0 0 _ HR.out HC.out HK.out).mono ?_; rintro e w' ⟨rfl, ⟨q, rfl⟩⟩)
        | (go_at_call 50; refine (join_str A0 c0 l0 _ (Kd.C_drewN HR.out _) HC.out HE.out).mono ?_; rw [← ES.out]; rintro e w1 ⟨rfl, hb⟩; have HB := Aside0.mk hb; clear hb))
      go_ret2
      have hB0 := Below.size HB.out
      have hB : w.heap.size ≤ w1.heap.size := hB0
      refine ⟨_, rfl, ?_, ?_⟩
      · rw [← ES.out]
        exact bytes_V w1 5 s (by rw [ES.out]; exact HS.out) _ (grownCap_ge _ _ _ _) hB
      · exact bytes_below (below_then (pw_below_drewN (Below.refl w.heap.size w) q) (Nat.le_refl _) HB.out) hB 5 s
    · rw [if_neg he] at h
      injection h with h1 h2
      subst h1
      obtain ⟨n, hn⟩ : ∃ n, n = linesErr l0 := ⟨_, rfl⟩
      rw [← hn] at hk he h2
      subst h2
      clear hn
      have HK := Aside0.mk hk
      have HR := Aside0.mk hr0
      have HC := Aside0.mk hc0
      clear hk hr0 hc0 hs hsm
      have he1 : (n == 0) = false := by simpa using he
      have he2 : (n != 0) = true := by simpa using he
      clear he
      go_enter Try.func38, Try.ntmps38
      go_wp2_with (go_at_call 49; refine (lines_check.calls k A0 c0 l0 n _ HR.out HC.out HK.out).mono ?_; rintro e w' ⟨rfl, ⟨q, rfl⟩⟩)
      go_ret2
      exact ⟨_, rfl, Kd.V_nil _ _ _ _ _, pw_below_drewN (Below.refl _ _) _⟩
  · cases h
end Go.Proofs.Ytnajpgimhoighaa.Pr
