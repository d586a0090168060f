/- Small lemmas for walks by hand: a row that is read, its address; the bytes of a string as a row. -/
import Derived.Test.YtnajpgimhoighaaK
namespace Go.Proofs.Ytnajpgimhoighaa.Pr
open Go.RowKit Go.Proofs.YtnajpgimhoighaaW.PrintWords Go.Proofs.YtnajpgimhoighaaW.PrintLast Go.Proofs.YtnajpgimhoighaaW.PrintMore
set_option linter.unusedVariables false
set_option linter.unusedSimpArgs false

theorem cell_lt {w : World} {a : Addr} {v : Value} (h : w.cell? a = some v) : a.spot = none ∧ a.block < w.heap.size := by
  refine ⟨?_, World.block_lt_of_cell? w a h⟩
  unfold World.cell? at h
  split at h
  · split at h
    · cases h
    · rename_i hs
      cases hsp : a.spot
      · rfl
      · simp [hsp] at hs
  · cases h
theorem C_addr {α : Type} {d : Kd α} {w : World} {A : Option Addr} {n : Nat} {xs : List α} (hs : 0 < d.sz) (h : d.C w A n xs) (hp : 0 < n) : ∃ b o, A = some ⟨b, o, none⟩ ∧ b < w.heap.size := by
  obtain ⟨ad, rfl, hc⟩ := h.2.2 hp
  have h1 := h.1
  obtain ⟨c, hl, _, hcc⟩ := hc 0 xs[0] (by simp)
  have h0 := hcc 0 c[0] (by simp)
  have h2 := cell_lt h0
  have e : ad.add (0 * d.sz + 0) = ad := by simp [Addr.add]
  rw [e] at h2
  obtain ⟨b, o, sp⟩ := ad
  obtain rfl : sp = none := h2.1
  exact ⟨b, o, rfl, h2.2⟩
/-- The strings of a row that is read, by their cells. -/
theorem C_strings {w : World} {A : Option Addr} {xs : List ByteArray} (h : Kd.C Kd.string w A xs.length xs) (hp : 0 < xs.length) : ∃ b o, A = some ⟨b, o, none⟩ ∧ b < w.heap.size ∧ ∀ (j : Nat) x, xs[j]? = some x → w.cell? ⟨b, o + j, none⟩ = some (.string x) := by
  obtain ⟨b, o, rfl, hb⟩ := C_addr (d := Kd.string) (by decide) h hp
  refine ⟨b, o, rfl, hb, fun j x hx => ?_⟩
  have hj : j < xs.length := (List.getElem?_eq_some_iff.1 hx).1
  obtain ⟨ad, e, hc⟩ := Kd.at_string h (j : Int) (by omega) (by omega)
  injection e with e
  subst e
  have hx' : rdOf ByteArray.empty xs (j : Int) = x := by simp [rdOf, hx]
  rw [hx', Int.toNat_natCast] at hc
  have ha : (⟨b, o, none⟩ : Addr).add j = ⟨b, o + j, none⟩ := by unfold Addr.add; split <;> simp_all
  rwa [ha] at hc
theorem bytes_C (W : World) (e : TypeId) (s : ByteArray) (hs : s.size ≤ 9223372036854775807) : Kd.C (Kd.int .u8) (Lib.bytesWorld W e s) (some ⟨W.heap.size, 0, none⟩) s.size (bytesOf s) := Kd.C_of_reads (d := (0 : Int)) (h1 := fun _ => rfl) (bytes_reads W e s hs)
/-- A string's bytes, just made, as a row that is only read. -/
theorem bytes_V (W : World) (e : TypeId) (s : ByteArray) (hs : s.size ≤ 9223372036854775807) (c : Nat) (hc : s.size ≤ c) {B : Nat} (hB : B ≤ W.heap.size) : Kd.V (Kd.int .u8) e (Lib.bytesWorld W e s) B (fun k_ => B ≤ k_) (.slice (some ⟨W.heap.size, 0, none⟩) s.size c) (bytesOf s) := by
  refine ⟨some ⟨W.heap.size, 0, none⟩, c, by rw [bytesOf_length], by rw [bytesOf_length]; exact hc, ?_⟩
  rw [bytesOf_length]
  intro W' hW
  have hb := hW W.heap.size hB (by rw [Lib.bytesWorld_size]; omega)
  have h := bytes_C W e s hs
  obtain ⟨h1, h2, h3⟩ := h
  refine ⟨h1, h2, fun hp => ?_⟩
  obtain ⟨ad, ea, hcell⟩ := h3 hp
  refine ⟨ad, ea, fun j p hj => ?_⟩
  obtain ⟨cs, e1, e2, e3⟩ := hcell j p hj
  refine ⟨cs, e1, e2, fun i u hu => ?_⟩
  have := e3 i u hu
  injection ea with ea
  subst ea
  have hbk : ∀ m, ((⟨W.heap.size, 0, none⟩ : Addr).add m).block = W.heap.size := fun m => by unfold Addr.add; split <;> rfl
  unfold World.cell? at this ⊢
  rw [hbk] at this ⊢
  rw [hb]
  exact this
end Go.Proofs.Ytnajpgimhoighaa.Pr
