/- bytes.Count at one line feed: how many there are in a list of bytes. -/
import Derived.Test.YtcmcleoghbjboaaDoorWk
import Derived.Test.YtcmcleoghbjboaaDoorPk
import Derived.Test.YtcmcleoghbjboaaDoorShelf
namespace Go.Proofs.YtcmcleoghbjboaaDoor.Pr
open Go.RowKit Go.Proofs.YtcmcleoghbjboaaDoorW.PrintWords Go.Proofs.YtcmcleoghbjboaaDoorW.PrintLast Go.Proofs.YtcmcleoghbjboaaDoorW.PrintMore
set_option linter.unusedVariables false
set_option linter.unusedSimpArgs false

/-- Each number is a byte. -/
def u8s (l : List Int) : Bool := l.all fun x => decide (0 ≤ x ∧ x < 256)
theorem u8s_mem {l : List Int} (h : u8s l = true) : ∀ x ∈ l, 0 ≤ x ∧ x < 256 := fun x hx => of_decide_eq_true (List.all_eq_true.1 h x hx)
theorem u8s_of {l : List Int} (h : ∀ x ∈ l, 0 ≤ x ∧ x < 256) : u8s l = true := List.all_eq_true.2 fun x hx => decide_eq_true (h x hx)
theorem u8s_wf {l : List Int} (h : ∀ x ∈ l, (Lit.int .u8 x).wf = true) : u8s l = true := u8s_of fun x hx => by
  have := h x hx
  simp only [Lit.wf, IntKind.min, IntKind.max, IntKind.signed, IntKind.bits, Bool.and_eq_true, decide_eq_true_eq] at this
  simp at this
  omega
theorem u8s_bytesOf (s : ByteArray) : u8s (bytesOf s) = true := u8s_of fun x hx => by
  unfold bytesOf at hx
  obtain ⟨b, _, rfl⟩ := List.mem_map.1 hx
  have := UInt8.toNat_lt b
  omega
theorem u8_eq (x : Int) (h : 0 ≤ x ∧ x < 256) : (UInt8.ofNat x.toNat = 10) ↔ x = 10 := by
  constructor
  · intro e
    have := congrArg UInt8.toNat e
    rw [UInt8.toNat_ofNat'] at this
    have e2 : (10 : UInt8).toNat = 10 := rfl
    rw [e2] at this
    omega
  · rintro rfl
    rfl
theorem count_nums (l : List Int) (h : u8s l = true) : Go.Lib.countByte (Go.Lib.bytesOf l) (10 : Int).toNat.toUInt8 = l.count 10 := by
  have hm := u8s_mem h
  clear h
  have e10 : (10 : Int).toNat.toUInt8 = (10 : UInt8) := rfl
  rw [e10]
  unfold Go.Lib.countByte Go.Lib.bytesOf
  induction l with
  | nil => rfl
  | cons x l ih =>
    have ih := ih fun y hy => hm y (by simp [hy])
    rw [List.map_cons, List.count_cons, List.count_cons, ih]
    congr 1
    have := u8_eq x (hm x (by simp))
    by_cases e : x = 10
    · subst e
      rfl
    · have e2 : ¬ UInt8.ofNat x.toNat = 10 := fun h => e (this.1 h)
      rw [if_neg (by simpa using e2), if_neg (by simpa using e)]

theorem count_none (b2 o2 c d : Nat) (cv : Int) (w : World) (hc2 : w.cell? ⟨b2, o2, none⟩ = some (.int .u8 cv)) :
    Calls Tryd.prog 10 #[.slice none 0 c, .slice (some ⟨b2, o2, none⟩) 1 d] w fun e w' => e = .returned (.int .i64 0) ∧ w' = w := by
  go_enter Tryd.func10, Tryd.ntmps10
  go_wp2
  rw [run_callFunc_extern Tryd.func16 (by kernel_rfl) (by kernel_rfl) (by kernel_rfl) (e := Extern.BytealgCount.count) (by kernel_rfl), Go.Lib.run_countNil w 0 c cv]
  simp only [Result.andThen]
  rw [Oper.upon_value]
  go_wp2
  go_ret
  exact ⟨rfl, rfl⟩

def bytes_Count.f (l0 : List Int) (l1 : List Int) : Option (Int) := if l1 = [10] ∧ u8s l0 = true then some ((l0.count 10 : Nat) : Int) else none
theorem bytes_Count.calls (A0 : Option Addr) (c0 : Nat) (l0 : List Int) (A1 : Option Addr) (c1 : Nat) (l1 : List Int) (r : Int) (w : World) (hr0 : Kd.C (Kd.int .u8) w A0 l0.length l0) (hc0 : l0.length ≤ c0) (hr1 : Kd.C (Kd.int .u8) w A1 l1.length l1) (hc1 : l1.length ≤ c1) (h : bytes_Count.f l0 l1 = some r) :
    Calls Tryd.prog 10 #[.slice A0 l0.length c0, .slice A1 l1.length c1] w fun e w' => e = .returned (.int .i64 r) ∧ Drawn0 w w' := by
  unfold bytes_Count.f at h
  split at h
  · rename_i hh
    obtain ⟨rfl, hu⟩ := hh
    injection h with h
    subst h
    obtain ⟨b2, o2, rfl, _⟩ := C_addr (d := Kd.int .u8) (by decide) hr1 (by decide)
    obtain ⟨ad, e, hc⟩ := Kd.at_int hr1 0 (by decide) (by decide)
    injection e with e
    subst e
    have hc2 : w.cell? ⟨b2, o2, none⟩ = some (.int .u8 10) := by
      have ha : (⟨b2, o2, none⟩ : Addr).add (0 : Int).toNat = ⟨b2, o2, none⟩ := by simp [Addr.add]
      rw [ha] at hc
      exact hc
    cases A0 with
    | some a =>
      refine (Tryd.bytes_Count_one_at a l0.length c0 b2 o2 c1 l0 10 w rfl (fun i hi => ?_) hc2).mono ?_
      · obtain ⟨ad, e, hc⟩ := Kd.at_int hr0 (i : Int) (by omega) (by omega)
        injection e with e
        subst e
        rw [Int.toNat_natCast] at hc
        rw [hc]
        simp [rd]
      · rintro e w' ⟨rfl, rfl⟩
        refine ⟨?_, Drawn0.refl _⟩
        rw [count_nums l0 hu]
    | none =>
      have h0 : l0 = [] := by
        cases l0 with
        | nil => rfl
        | cons x l =>
          obtain ⟨ad, e, _⟩ := Kd.at_int hr0 0 (by decide) (by simp)
          cases e
      subst h0
      refine (count_none b2 o2 c0 c1 10 w hc2).mono ?_
      rintro e w' ⟨rfl, rfl⟩
      exact ⟨rfl, Drawn0.refl _⟩
  · cases h
end Go.Proofs.YtcmcleoghbjboaaDoor.Pr
