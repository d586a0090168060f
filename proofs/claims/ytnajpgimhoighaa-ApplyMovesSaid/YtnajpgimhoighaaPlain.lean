/- hunk.plain: whether a list has lines that a hunk may have: slices.ContainsFunc and slices.IndexFunc at its closure, every list. -/
import Derived.Test.YtnajpgimhoighaaOdd
namespace Go.Proofs.Ytnajpgimhoighaa.Pr
open Go.RowKit Go.Proofs.YtnajpgimhoighaaW.PrintWords Go.Proofs.YtnajpgimhoighaaW.PrintLast Go.Proofs.YtnajpgimhoighaaW.PrintMore
set_option linter.unusedVariables false
set_option linter.unusedSimpArgs false

/-- A line that is too long, or with a line feed. -/
def widey (s : ByteArray) : Bool := decide (2000 < s.size) || feedy s
theorem plain1_any (s : ByteArray) (w : World) : Calls Try.prog 58 #[.string s] w fun e w' => e = .returned (.bool (widey s)) ∧ w' = w := by
  by_cases c : (s.size : Int) > 2000
  · have c1 : decide ((s.size : Int) > 2000) = true := decide_eq_true c
    have c2 : decide ((2000 : Int) < (s.size : Int)) = true := decide_eq_true c
    have e1 : widey s = true := by unfold widey; rw [decide_eq_true (by omega)]; rfl
    rw [e1]
    clear e1 c
    go_enter Try.func58, Try.ntmps58
    go_wp2
    go_ret
    exact ⟨rfl, rfl⟩
  · have c1 : decide ((s.size : Int) > 2000) = false := decide_eq_false c
    have c2 : decide ((2000 : Int) < (s.size : Int)) = false := decide_eq_false c
    have e1 : widey s = feedy s := by unfold widey; rw [decide_eq_false (by omega)]; rfl
    rw [e1]
    clear e1 c
    go_enter Try.func58, Try.ntmps58
    go_wp2_with (go_at_call 59; refine (Try.strings_IndexByte _ _ _).mono ?_; rintro e w' ⟨rfl, rfl⟩)
    go_ret
    exact ⟨rfl, rfl⟩

set_option maxHeartbeats 2000000 in
theorem pidxf_any (A0 : Option Addr) (c0 : Nat) (l0 : List ByteArray) (w : World) (hr0 : Kd.C Kd.string w A0 l0.length l0) :
    Calls Try.prog 63 #[.slice A0 l0.length c0, .func (.func 58) #[] #[]] w fun e w' => e = .returned (.int .i64 (idxFrom widey l0 0)) ∧ Drawn0 w w' := by
  have hbig : l0.length ≤ 9223372036854775807 := hr0.2.1
  have eg : ∀ args w, (callFunc 58 args).run Try.prog w = .ok (.enter 58 args) w := enters_of Try.func58 (by kernel_rfl) rfl
  have HR0 := Aside0.mk hr0
  clear hr0
  go_enter Try.func63, Try.ntmps63
  go_wp2
  go_loopg [5, 8] l0.length (fun gg _ s8 wr => ∃ kk q : Nat, kk ≤ l0.length ∧ l0.length - kk ≤ gg ∧ s8 = .int .i64 kk ∧ wr = w.drewN q ∧ Aside0 (∀ j (hj : j < l0.length), j < kk → widey (l0[j]'hj) = false))
  case atStart => exact ⟨0, 0, Nat.zero_le _, by omega, rfl, rfl, ⟨fun j _ hj => absurd hj (Nat.not_lt_zero _)⟩⟩
  case round =>
    obtain ⟨kk, q, hkk, hg, rfl, rfl, HN⟩ := hrel
    by_cases hlt : kk < l0.length
    · have hltz : (kk : Int) < (l0.length : Int) := by omega
      obtain ⟨ad, rfl, hcell⟩ := Kd.at_string HR0.out (kk : Int) (by omega) (by omega)
      simp only [Int.toNat_natCast] at hcell
      have hy0 : rdOf ByteArray.empty l0 (kk : Int) = l0[kk] := by simp [rdOf, hlt]
      rw [hy0] at hcell
      obtain ⟨y, hy⟩ : ∃ y, y = l0[kk] := ⟨_, rfl⟩
      rw [← hy] at hcell
      have HY := Aside0.mk hy
      clear hy hy0
      have hcall := plain1_any y
      cases hq : widey y with
      | true =>
        rw [hq] at hcall
        go_wp2_with (go_at_fn 58; refine (hcall _).mono ?_; rintro e w' ⟨rfl, rfl⟩)
        go_ret
        refine ⟨?_, ⟨⟨_, rfl⟩⟩⟩
        rw [idxFrom_hit widey l0 0 kk hlt (fun j hj => HN.out j (by omega) hj) (by rw [← HY.out]; exact hq)]
        simp
      | false =>
        rw [hq] at hcall
        go_wp2_with (go_at_fn 58; refine (hcall _).mono ?_; rintro e w' ⟨rfl, rfl⟩)
        go_roundg (l0.length - (kk + 1))
        case measure => omega
        case rel =>
          refine ⟨kk + 1, _, by omega, by omega, by go_num, rfl, ⟨fun j hjl hj => ?_⟩⟩
          by_cases e : j = kk
          · subst e
            rw [← HY.out]; exact hq
          · exact HN.out j hjl (by omega)
    · have hltz : ¬ (kk : Int) < (l0.length : Int) := by omega
      have hk : kk = l0.length := by omega
      have HK := Aside0.mk hk
      clear hk
      go_wp2
      go_ret
      refine ⟨?_, ⟨⟨q, rfl⟩⟩⟩
      rw [idxFrom_miss widey l0 0 (fun j hj => HN.out j hj (by rw [HK.out]; exact hj))]
      rfl

theorem pcontains_any (A0 : Option Addr) (c0 : Nat) (l0 : List ByteArray) (w : World) (hr0 : Kd.C Kd.string w A0 l0.length l0) :
    Calls Try.prog 57 #[.slice A0 l0.length c0, .func (.func 58) #[] #[]] w fun e w' => e = .returned (.bool (l0.any widey)) ∧ Drawn0 w w' := by
  rw [← idxFrom_any widey l0 0]
  go_enter Try.func57, Try.ntmps57
  go_wp2_with (go_at_call 63; refine (pidxf_any A0 c0 l0 _ hr0).mono ?_; rintro e w' ⟨rfl, ⟨q, rfl⟩⟩)
  go_ret
  exact ⟨rfl, ⟨⟨q, rfl⟩⟩⟩

def hunk_plain.f (l0 : List ByteArray) : Option (Bool) := some (decide (l0.length ≤ 60) && !l0.any widey)
theorem hunk_plain.calls (A0 : Option Addr) (c0 : Nat) (l0 : List ByteArray) (r : Bool) (w : World) (hr0 : Kd.C Kd.string w A0 l0.length l0) (hc0 : l0.length ≤ c0) (h : hunk_plain.f l0 = some r) :
    Calls Try.prog 52 #[.slice A0 l0.length c0] w fun e w' => e = .returned (.bool r) ∧ Drawn0 w w' := by
  obtain rfl : (decide (l0.length ≤ 60) && !l0.any widey) = r := by simpa [hunk_plain.f] using h
  clear h
  by_cases c : (l0.length : Int) ≤ 60
  · have c1 : decide ((l0.length : Int) ≤ 60) = true := decide_eq_true c
    rw [decide_eq_true (show l0.length ≤ 60 by omega), Bool.true_and]
    clear c
    go_enter Try.func52, Try.ntmps52
    go_wp2_with (go_at_call 57; refine (pcontains_any A0 c0 l0 _ hr0).mono ?_; rintro e w' ⟨rfl, ⟨q, rfl⟩⟩)
    go_ret
    exact ⟨rfl, ⟨⟨q, rfl⟩⟩⟩
  · have c1 : decide ((l0.length : Int) ≤ 60) = false := decide_eq_false c
    rw [decide_eq_false (show ¬ l0.length ≤ 60 by omega), Bool.false_and]
    clear c
    go_enter Try.func52, Try.ntmps52
    go_wp2
    go_ret
    first | exact ⟨rfl, ⟨⟨0, rfl⟩⟩⟩ | exact ⟨rfl, ⟨⟨_, rfl⟩⟩⟩ | exact ⟨rfl, ⟨⟨0, by simp [World.drewN]⟩⟩⟩ | exact ⟨rfl, ⟨0, rfl⟩⟩
end Go.Proofs.Ytnajpgimhoighaa.Pr
