/- Part 4 of the proof of MergeApart: texts put together. -/
import Derived.Test.YtahpbpacjciddaaJMergeApart1
import Derived.Test.YtahpbpacjciddaaJMergeApart3
import Derived.Test.YtahpbpacjciddaaProg
import Derived.Below
import Derived.Deep.Draws
import Derived.Deep.AppendLies
import Derived.Maps.AppendAt
import Derived.OwnWalk
import Derived.Laws.BytesArg
import Derived.Laws.MakeOwn
import Derived.Laws.OwnMore
import Derived.Deep.OwnRows
import Derived.Tactics
import Derived.Lib.ConvBytes
import Derived.Laws.Slices
import Derived.WalkKit
import Derived.KernelRfl
import Derived.RowKit3
import Derived.Deep.LoopGhost
import Derived.Deep.QuietTactic
import Derived.BigQuiet
import Derived.WideLaws
import Derived.Deep.DeepCutAuto
import Derived.Deep.CutBlock
import Derived.Deep.RegionHeld3
import Derived.Laws.Rows
import Derived.Lib.AppendStr
import Derived.ArgAppend
import Derived.Laws.IdiomCopy
import Derived.OrdersHeld
import Derived.Laws.BitsLemmas
import Derived.RowKit
import Derived.Laws.StructEq
import Derived.ChangeKeysEq
import Derived.OneCell
import Derived.WideShapes
import Derived.RegionTactic
import Derived.Lib.SliceRun
set_option linter.unusedVariables false
set_option linter.unusedSimpArgs false
section
namespace Go.Proofs.Ytahpbpacjciddaa.Pr
open Go.RowKit Go.Proofs.YtahpbpacjciddaaW.PrintWords Go.Proofs.YtahpbpacjciddaaW.PrintLast Go.Proofs.YtahpbpacjciddaaW.PrintMore
attribute [local go_sem] max2_int min2_int max_two min_two max_three min_three max_four min_four   
def errW : Option Int → Value
 | none => .nilIface
 | some c => .iface 0 (.int .i64 c)
theorem errW_none : errW none = .nilIface := rfl
theorem errW_some (c : Int) : errW (some c) = .iface 0 (.int .i64 c) := rfl
theorem info3 : (Try.prog.info? 3).map (fun i => (i.zero, i.size, i.bytes)) = some (some (.int .i64 0), 1, 8) := by kernel_rfl
theorem info4 : (Try.prog.info? 4).map (fun i => (i.zero, i.size, i.bytes)) = some (some (.bool false), 1, 1) := by kernel_rfl
theorem info5 : (Try.prog.info? 5).map (fun i => (i.zero, i.size, i.bytes)) = some (some (.int .u8 0), 1, 1) := by kernel_rfl
theorem info9 : (Try.prog.info? 9).map (fun i => (i.zero, i.size, i.bytes)) = some (some (.string ⟨#[]⟩), 1, 16) := by kernel_rfl
theorem info34 : (Try.prog.info? 34).map (fun i => (i.zero, i.size, i.bytes)) = some (some (.agg #[(.int .u8 0), (.slice none 0 0), (.slice none 0 0), (.slice none 0 0)]), 4, 80) := by kernel_rfl
theorem info51 : (Try.prog.info? 51).map (fun i => (i.zero, i.size, i.bytes)) = some (some (.slice none 0 0), 1, 24) := by kernel_rfl
theorem info77 : (Try.prog.info? 77).map (fun i => (i.zero, i.size, i.bytes)) = some (some (.agg #[(.int .i64 0), (.int .i64 0)]), 2, 16) := by kernel_rfl
structure S34 where
 f0 : Int
 f1 : (List ByteArray)
 f2 : (List ByteArray)
 f3 : (List ByteArray)
def z34 : S34 := ⟨(0 : Int), ([] : List ByteArray), ([] : List ByteArray), ([] : List ByteArray)⟩
def k34 : Kd S34 := Kd.iso (Kd.pair (Kd.int .u8) (Kd.pair (Kd.slice 9 Kd.string) (Kd.pair (Kd.slice 9 Kd.string) (Kd.slice 9 Kd.string)))) (fun x : S34 => (x.f0, x.f1, x.f2, x.f3))
theorem k34_open {w : World} {x : S34} {cs : List Value} (h : k34.K w x cs) : ∃ A1 c1 A2 c2 A3 c3, cs = [.int .u8 x.f0, .slice A1 x.f1.length c1, .slice A2 x.f2.length c2, .slice A3 x.f3.length c3] ∧ x.f1.length ≤ c1 ∧ Kd.string.C w A1 x.f1.length x.f1 ∧ x.f2.length ≤ c2 ∧ Kd.string.C w A2 x.f2.length x.f2 ∧ x.f3.length ≤ c3 ∧ Kd.string.C w A3 x.f3.length x.f3 := by
 obtain ⟨_, _, rfl, rfl, ⟨_, _, rfl, ⟨A1, c1, rfl, l1, g1⟩, ⟨_, _, rfl, ⟨A2, c2, rfl, l2, g2⟩, ⟨A3, c3, rfl, l3, g3⟩⟩⟩⟩ := h
 exact ⟨A1, c1, A2, c2, A3, c3, rfl, l1, g1, l2, g2, l3, g3⟩
theorem k34_openM {w : World} {base : Nat} {ok : Nat → Prop} {x : S34} {cs : List Value} (h : k34.M w base ok x cs) : ∃ v1 v2 v3, cs = [.int .u8 x.f0, v1, v2, v3] ∧ Kd.string.R 9 w base ok v1 x.f1 ∧ Kd.string.R 9 w base ok v2 x.f2 ∧ Kd.string.R 9 w base ok v3 x.f3 := by
 obtain ⟨_, _, rfl, rfl, ⟨_, _, rfl, ⟨v1, rfl, g1⟩, ⟨_, _, rfl, ⟨v2, rfl, g2⟩, ⟨v3, rfl, g3⟩⟩⟩⟩ := h
 exact ⟨v1, v2, v3, rfl, g1, g2, g3⟩
theorem k34_mk (w : World) (x : S34) {A1 : Option Addr} {c1 : Nat} (l1 : x.f1.length ≤ c1) (g1 : Kd.string.C w A1 x.f1.length x.f1) {A2 : Option Addr} {c2 : Nat} (l2 : x.f2.length ≤ c2) (g2 : Kd.string.C w A2 x.f2.length x.f2) {A3 : Option Addr} {c3 : Nat} (l3 : x.f3.length ≤ c3) (g3 : Kd.string.C w A3 x.f3.length x.f3) : k34.K w x [.int .u8 x.f0, .slice A1 x.f1.length c1, .slice A2 x.f2.length c2, .slice A3 x.f3.length c3] := ⟨[.int .u8 x.f0], [.slice A1 x.f1.length c1, .slice A2 x.f2.length c2, .slice A3 x.f3.length c3], rfl, rfl, ⟨[.slice A1 x.f1.length c1], [.slice A2 x.f2.length c2, .slice A3 x.f3.length c3], rfl, ⟨A1, c1, rfl, l1, g1⟩, ⟨[.slice A2 x.f2.length c2], [.slice A3 x.f3.length c3], rfl, ⟨A2, c2, rfl, l2, g2⟩, ⟨A3, c3, rfl, l3, g3⟩⟩⟩⟩
theorem k34_mkM (w : World) (base : Nat) (ok : Nat → Prop) (x : S34) {v1 : Value} (g1 : Kd.string.R 9 w base ok v1 x.f1) {v2 : Value} (g2 : Kd.string.R 9 w base ok v2 x.f2) {v3 : Value} (g3 : Kd.string.R 9 w base ok v3 x.f3) : k34.M w base ok x [.int .u8 x.f0, v1, v2, v3] := ⟨[.int .u8 x.f0], [v1, v2, v3], rfl, rfl, ⟨[v1], [v2, v3], rfl, ⟨v1, rfl, g1⟩, ⟨[v2], [v3], rfl, ⟨v2, rfl, g2⟩, ⟨v3, rfl, g3⟩⟩⟩⟩
theorem k34_mkF (W : World) (ok : Nat → Prop) (x : S34) {A1 : Option Addr} {c1 : Nat} (l1 : x.f1.length ≤ c1) (g1 : Kd.F Kd.string W ok A1 x.f1.length x.f1) {A2 : Option Addr} {c2 : Nat} (l2 : x.f2.length ≤ c2) (g2 : Kd.F Kd.string W ok A2 x.f2.length x.f2) {A3 : Option Addr} {c3 : Nat} (l3 : x.f3.length ≤ c3) (g3 : Kd.F Kd.string W ok A3 x.f3.length x.f3) : Kd.FK k34 W ok x [.int .u8 x.f0, .slice A1 x.f1.length c1, .slice A2 x.f2.length c2, .slice A3 x.f3.length c3] := fun W2 hW => k34_mk W2 x l1 (g1 W2 hW) l2 (g2 W2 hW) l3 (g3 W2 hW)
def rd_T34 (xs : List S34) (i : Int) : S34 := xs.getD i.toNat z34
theorem at_T34 {w : World} {A : Option Addr} {n : Nat} {xs : List S34} (h : Kd.C k34 w A n xs) (i : Int) (h0 : 0 ≤ i) (h1 : i < n) : ∃ ad A1 c1 A2 c2 A3 c3, A = some ad ∧ w.cell? (ad.add (i.toNat * 4)) = some (.int .u8 (rd_T34 xs i).f0) ∧ w.cell? ⟨(ad.add (i.toNat * 4)).block, (ad.add (i.toNat * 4)).off + 1, none⟩ = some (.slice A1 (rd_T34 xs i).f1.length c1) ∧ w.cell? ⟨(ad.add (i.toNat * 4)).block, (ad.add (i.toNat * 4)).off + 2, none⟩ = some (.slice A2 (rd_T34 xs i).f2.length c2) ∧ w.cell? ⟨(ad.add (i.toNat * 4)).block, (ad.add (i.toNat * 4)).off + 3, none⟩ = some (.slice A3 (rd_T34 xs i).f3.length c3) ∧ (rd_T34 xs i).f1.length ≤ c1 ∧ Kd.string.C w A1 (rd_T34 xs i).f1.length (rd_T34 xs i).f1 ∧ (rd_T34 xs i).f2.length ≤ c2 ∧ Kd.string.C w A2 (rd_T34 xs i).f2.length (rd_T34 xs i).f2 ∧ (rd_T34 xs i).f3.length ≤ c3 ∧ Kd.string.C w A3 (rd_T34 xs i).f3.length (rd_T34 xs i).f3 := by
 obtain ⟨ad, c, e, _, hK, hc0⟩ := Kd.C_get h z34 i h0 h1
 have hc : ∀ j u, c[j]? = some u → w.cell? (ad.add (i.toNat * 4 + j)) = some u := hc0
 obtain ⟨A1, c1, A2, c2, A3, c3, rfl, l1, g1, l2, g2, l3, g3⟩ := k34_open hK
 exact ⟨ad, A1, c1, A2, c2, A3, c3, e, hc 0 _ rfl, by rw [← add_field _ _ 1 (by omega)]; exact hc 1 _ rfl, by rw [← add_field _ _ 2 (by omega)]; exact hc 2 _ rfl, by rw [← add_field _ _ 3 (by omega)]; exact hc 3 _ rfl, l1, g1, l2, g2, l3, g3⟩
structure S77 where
 f0 : Int
 f1 : Int
def z77 : S77 := ⟨(0 : Int), (0 : Int)⟩
def k77 : Kd S77 := Kd.iso (Kd.pair (Kd.int .i64) (Kd.int .i64)) (fun x : S77 => (x.f0, x.f1))
theorem k77_open {w : World} {x : S77} {cs : List Value} (h : k77.K w x cs) : cs = [.int .i64 x.f0, .int .i64 x.f1] := by
 obtain ⟨_, _, rfl, rfl, rfl⟩ := h
 exact rfl
theorem k77_mkM (w : World) (base : Nat) (ok : Nat → Prop) (x : S77)  : k77.M w base ok x [.int .i64 x.f0, .int .i64 x.f1] := ⟨[.int .i64 x.f0], [.int .i64 x.f1], rfl, rfl, rfl⟩
def rd_T77 (xs : List S77) (i : Int) : S77 := xs.getD i.toNat z77
theorem at_T77 {w : World} {A : Option Addr} {n : Nat} {xs : List S77} (h : Kd.C k77 w A n xs) (i : Int) (h0 : 0 ≤ i) (h1 : i < n) : ∃ ad , A = some ad ∧ w.cell? (ad.add (i.toNat * 2)) = some (.int .i64 (rd_T77 xs i).f0) ∧ w.cell? ⟨(ad.add (i.toNat * 2)).block, (ad.add (i.toNat * 2)).off + 1, none⟩ = some (.int .i64 (rd_T77 xs i).f1) := by
 obtain ⟨ad, c, e, _, hK, hc0⟩ := Kd.C_get h z77 i h0 h1
 have hc : ∀ j u, c[j]? = some u → w.cell? (ad.add (i.toNat * 2 + j)) = some u := hc0
 obtain rfl := k77_open hK
 exact ⟨ad, e, hc 0 _ rfl, by rw [← add_field _ _ 1 (by omega)]; exact hc 1 _ rfl⟩
def rd_Li64 (xs : List (List Int)) (i : Int) : (List Int) := xs.getD i.toNat ([] : List Int)
theorem at_Li64 {w : World} {A : Option Addr} {n : Nat} {xs : List (List Int)} (h : Kd.C (Kd.slice 3 (Kd.int .i64)) w A n xs) (i : Int) (h0 : 0 ≤ i) (h1 : i < n) : ∃ ad A0 c0, A = some ad ∧ w.cell? (ad.add i.toNat) = some (.slice A0 (rd_Li64 xs i).length c0) ∧ (rd_Li64 xs i).length ≤ c0 ∧ (Kd.int .i64).C w A0 (rd_Li64 xs i).length (rd_Li64 xs i) := by
 obtain ⟨ad, c, e, _, hK, hc0⟩ := Kd.C_get h ([] : List Int) i h0 h1
 have hc : ∀ j u, c[j]? = some u → w.cell? (ad.add (i.toNat * 1 + j)) = some u := hc0
 obtain ⟨A0, c0, rfl, l0, g0⟩ := hK
 exact ⟨ad, A0, c0, e, by have hq := hc 0 _ rfl; rwa [Nat.mul_one, Nat.add_zero] at hq, l0, g0⟩
structure S82 where
 f0 : Int
 f1 : (List ByteArray)
 f2 : (List ByteArray)
def z82 : S82 := ⟨(0 : Int), ([] : List ByteArray), ([] : List ByteArray)⟩
def k82 : Kd S82 := Kd.iso (Kd.pair (Kd.int .i64) (Kd.pair (Kd.slice 9 Kd.string) (Kd.slice 9 Kd.string))) (fun x : S82 => (x.f0, x.f1, x.f2))
theorem k82_open {w : World} {x : S82} {cs : List Value} (h : k82.K w x cs) : ∃ A1 c1 A2 c2, cs = [.int .i64 x.f0, .slice A1 x.f1.length c1, .slice A2 x.f2.length c2] ∧ x.f1.length ≤ c1 ∧ Kd.string.C w A1 x.f1.length x.f1 ∧ x.f2.length ≤ c2 ∧ Kd.string.C w A2 x.f2.length x.f2 := by
 obtain ⟨_, _, rfl, rfl, ⟨_, _, rfl, ⟨A1, c1, rfl, l1, g1⟩, ⟨A2, c2, rfl, l2, g2⟩⟩⟩ := h
 exact ⟨A1, c1, A2, c2, rfl, l1, g1, l2, g2⟩
theorem k82_mkM (w : World) (base : Nat) (ok : Nat → Prop) (x : S82) {v1 : Value} (g1 : Kd.string.R 9 w base ok v1 x.f1) {v2 : Value} (g2 : Kd.string.R 9 w base ok v2 x.f2) : k82.M w base ok x [.int .i64 x.f0, v1, v2] := ⟨[.int .i64 x.f0], [v1, v2], rfl, rfl, ⟨[v1], [v2], rfl, ⟨v1, rfl, g1⟩, ⟨v2, rfl, g2⟩⟩⟩
def rd_T82 (xs : List S82) (i : Int) : S82 := xs.getD i.toNat z82
theorem at_T82 {w : World} {A : Option Addr} {n : Nat} {xs : List S82} (h : Kd.C k82 w A n xs) (i : Int) (h0 : 0 ≤ i) (h1 : i < n) : ∃ ad A1 c1 A2 c2, A = some ad ∧ w.cell? (ad.add (i.toNat * 3)) = some (.int .i64 (rd_T82 xs i).f0) ∧ w.cell? ⟨(ad.add (i.toNat * 3)).block, (ad.add (i.toNat * 3)).off + 1, none⟩ = some (.slice A1 (rd_T82 xs i).f1.length c1) ∧ w.cell? ⟨(ad.add (i.toNat * 3)).block, (ad.add (i.toNat * 3)).off + 2, none⟩ = some (.slice A2 (rd_T82 xs i).f2.length c2) ∧ (rd_T82 xs i).f1.length ≤ c1 ∧ Kd.string.C w A1 (rd_T82 xs i).f1.length (rd_T82 xs i).f1 ∧ (rd_T82 xs i).f2.length ≤ c2 ∧ Kd.string.C w A2 (rd_T82 xs i).f2.length (rd_T82 xs i).f2 := by
 obtain ⟨ad, c, e, _, hK, hc0⟩ := Kd.C_get h z82 i h0 h1
 have hc : ∀ j u, c[j]? = some u → w.cell? (ad.add (i.toNat * 3 + j)) = some u := hc0
 obtain ⟨A1, c1, A2, c2, rfl, l1, g1, l2, g2⟩ := k82_open hK
 exact ⟨ad, A1, c1, A2, c2, e, hc 0 _ rfl, by rw [← add_field _ _ 1 (by omega)]; exact hc 1 _ rfl, by rw [← add_field _ _ 2 (by omega)]; exact hc 2 _ rfl, l1, g1, l2, g2⟩
end Go.Proofs.Ytahpbpacjciddaa.Pr
end
section
namespace Go.Proofs.Ytahpbpacjciddaa.Pr
open Go.RowKit Go.Proofs.YtahpbpacjciddaaW.PrintWords Go.Proofs.YtahpbpacjciddaaW.PrintLast Go.Proofs.YtahpbpacjciddaaW.PrintMore
theorem snc {u v w : World} (h1 : Below u.heap.size u v) (h2 : Below v.heap.size v w) : Below u.heap.size u w := Below.trans h1 (Below.mono h2 (Below.size h1))
theorem snc_cell {u w : World} (hb : Below u.heap.size u w) {a : Addr} {v : Value} (h : u.cell? a = some v) : w.cell? a = some v := by
 have hl := World.block_lt_of_cell? u a h
 rw [← h]
 simp only [World.cell?, hb.block _ hl]
structure FF (W : World) (A : Option Addr) (c : Nat) (l : List ByteArray) : Prop where
 len : l.length ≤ c
 ft : Kd.F Kd.string W (fun _ => True) A l.length l
theorem FF.of {W : World} {b : Nat} {ok : Nat → Prop} {v : Value} {l : List ByteArray} (h : Kd.R Kd.string 9 W b ok v l) : ∃ A c, v = .slice A l.length c ∧ FF W A c l := by
 obtain ⟨A, c, rfl⟩ := Kd.R_slice h
 exact ⟨A, c, rfl, (Kd.R_reads' h).2.1, Kd.F_mono (Kd.R_F h) (fun _ _ => trivial)⟩
theorem FF.up {W W1 : World} {A : Option Addr} {c : Nat} {l : List ByteArray} (h : FF W A c l) (hb : Below W.heap.size W W1) : FF W1 A c l := ⟨h.1, Kd.F_below h.2 hb⟩
theorem FF.C {W : World} {A : Option Addr} {c : Nat} {l : List ByteArray} (h : FF W A c l) : Kd.C Kd.string W A l.length l := Kd.F_now h.2
theorem FF.nil (W : World) : FF W none 0 [] := ⟨Nat.le_refl _, Kd.R_F (Kd.R_nil Kd.string 9 W W.heap.size (fun _ => True))⟩
end Go.Proofs.Ytahpbpacjciddaa.Pr
end
section
namespace Go.Proofs.Ytahpbpacjciddaa.Pr
open Go.RowKit Go.Proofs.YtahpbpacjciddaaW.PrintWords Go.Proofs.YtahpbpacjciddaaW.PrintLast Go.Proofs.YtahpbpacjciddaaW.PrintMore
theorem cell_lt {w : World} {a : Addr} {v : Value} (h : w.cell? a = some v) : a.spot = none ∧ a.block < w.heap.size := by
 refine ⟨?_, World.block_lt_of_cell? w a h⟩
 unfold World.cell? at h
 split at h
 ·split at h
  ·cases h
  ·rename_i hs
   cases hsp : a.spot
   ·rfl
   ·simp [hsp] at hs
 ·cases h
theorem C_addr {α : Type} {d : Kd α} {w : World} {A : Option Addr} {n : Nat} {xs : List α} (hs : 0 < d.sz) (h : d.C w A n xs) (hp : 0 < n) : ∃ b o, A = some ⟨b, o, none⟩ ∧ b < w.heap.size := by
 obtain ⟨ad, rfl, hc⟩ := h.2.2 hp
 have h1 := h.1
 obtain ⟨c, hl, _, hcc⟩ := hc 0 xs[0] (by simp)
 have h0 := hcc 0 c[0] (by simp)
 have h2 := cell_lt h0
 have e : ad.add (0 * d.sz + 0) = ad := by simp [Addr.add]
 rw [e] at h2
 obtain ⟨b, o, sp⟩ := ad
 obtain rfl : sp = none := h2.1
 exact ⟨b, o, rfl, h2.2⟩
theorem C_strings {w : World} {A : Option Addr} {xs : List ByteArray} (h : Kd.C Kd.string w A xs.length xs) (hp : 0 < xs.length) : ∃ b o, A = some ⟨b, o, none⟩ ∧ b < w.heap.size ∧ ∀ (j : Nat) x, xs[j]? = some x → w.cell? ⟨b, o + j, none⟩ = some (.string x) := by
 obtain ⟨b, o, rfl, hb⟩ := C_addr (d := Kd.string) (by decide) h hp
 refine ⟨b, o, rfl, hb, fun j x hx => ?_⟩
 have hj : j < xs.length := (List.getElem?_eq_some_iff.1 hx).1
 obtain ⟨ad, e, hc⟩ := Kd.at_string h (j : Int) (by omega) (by omega)
 injection e with e
 subst e
 have hx' : rdOf ByteArray.empty xs (j : Int) = x := by simp [rdOf, hx]
 rw [hx', Int.toNat_natCast] at hc
 have ha : (⟨b, o, none⟩ : Addr).add j = ⟨b, o + j, none⟩ := by unfold Addr.add; split <;> simp_all
 rwa [ha] at hc
theorem bytes_C (W : World) (e : TypeId) (s : ByteArray) (hs : s.size ≤ 9223372036854775807) : Kd.C (Kd.int .u8) (Lib.bytesWorld W e s) (some ⟨W.heap.size, 0, none⟩) s.size (bytesOf s) := Kd.C_of_reads (d := (0 : Int)) (h1 := fun _ => rfl) (bytes_reads W e s hs)
theorem bytes_V (W : World) (e : TypeId) (s : ByteArray) (hs : s.size ≤ 9223372036854775807) (c : Nat) (hc : s.size ≤ c) {B : Nat} (hB : B ≤ W.heap.size) : Kd.V (Kd.int .u8) e (Lib.bytesWorld W e s) B (fun k_ => B ≤ k_) (.slice (some ⟨W.heap.size, 0, none⟩) s.size c) (bytesOf s) := by
 refine ⟨some ⟨W.heap.size, 0, none⟩, c, by rw [bytesOf_length], by rw [bytesOf_length]; exact hc, ?_⟩
 rw [bytesOf_length]
 intro W' hW
 have hb := hW W.heap.size hB (by rw [Lib.bytesWorld_size]; omega)
 have h := bytes_C W e s hs
 obtain ⟨h1, h2, h3⟩ := h
 refine ⟨h1, h2, fun hp => ?_⟩
 obtain ⟨ad, ea, hcell⟩ := h3 hp
 refine ⟨ad, ea, fun j p hj => ?_⟩
 obtain ⟨cs, e1, e2, e3⟩ := hcell j p hj
 refine ⟨cs, e1, e2, fun i u hu => ?_⟩
 have := e3 i u hu
 injection ea with ea
 subst ea
 have hbk : ∀ m, ((⟨W.heap.size, 0, none⟩ : Addr).add m).block = W.heap.size := fun m => by unfold Addr.add; split <;> rfl
 unfold World.cell? at this ⊢
 rw [hbk] at this ⊢
 rw [hb]
 exact this
end Go.Proofs.Ytahpbpacjciddaa.Pr
end
section
namespace Go.Proofs.Ytahpbpacjciddaa.Pr
open Go.RowKit Go.Proofs.YtahpbpacjciddaaW.PrintWords Go.Proofs.YtahpbpacjciddaaW.PrintLast Go.Proofs.YtahpbpacjciddaaW.PrintMore
theorem pc_keep {B : Nat} {w w1 : World} (hb : Below B w w1) {g i : Nat} {v : Value} (hg : g < B) (h : w.cell? ⟨g, i, none⟩ = some v) : w1.cell? ⟨g, i, none⟩ = some v := by
 rw [← h]
 simp only [World.cell?, hb.block g hg]
theorem pc_frozen {B : Nat} {w w1 : World} (hb : Below B w w1) {g i : Nat} (hg : g < B) (h : w.frozen? ⟨g, i, none⟩ = false) : w1.frozen? ⟨g, i, none⟩ = false := by
 rw [← h]
 simp only [World.frozen?, hb.block g hg]
theorem R_setElder {α : Type} {d : Kd α} {e b : Nat} {W : World} {ok : Nat → Prop} {v : Value} {xs : List α} (h : d.R e W b ok v xs) {p : Addr} (hp : p.block < b) (u : Value) : d.R e (W.setCell p u) b ok v xs :=
 Kd.R_mono (Kd.R_far (Kd.R_bound h) (fun k hk he => by have := hk.2.1; omega) u) (fun k hk => hk.1)
end Go.Proofs.Ytahpbpacjciddaa.Pr
end
section
namespace Go.Proofs.Ytahpbpacjciddaa.Pr
open Go.RowKit Go.Proofs.YtahpbpacjciddaaW.PrintWords Go.Proofs.YtahpbpacjciddaaW.PrintLast Go.Proofs.YtahpbpacjciddaaW.PrintMore
theorem eqI3 (a b c x y z : Int) (w : World) (d : Nat) : Sem.run Try.prog (Op.equalIn (d + 2) 54 (.agg #[.int .i64 a, .int .i64 b, .int .i64 c]) (.agg #[.int .i64 x, .int .i64 y, .int .i64 z])) w = .ok (a == x && (b == y && c == z)) w := by
 have hs : (sizeOf 3).run Try.prog w = Result.ok (1 : Nat) w := by simp [sizeOf, typeInfo]; kernel_rfl
 have hi : ∀ (u v : Int), (Op.equalIn (d + 1) 3 (.int .i64 u) (.int .i64 v)).run Try.prog w = .ok (u == v) w := fun u v => run_equalIn_int w d 3 .i64 .i64 u v Try.underlying3
 have hp : ∀ (cs : Array Value) (k : Nat) (v : Value), cs[k]? = some v → (part 3 cs k).run Try.prog w = .ok v w := fun cs k v h => run_part_plain (P := Try.prog) w (e := 3) (show Program.plainKey Try.prog 3 = true by kernel_rfl) h
 rw [Op.equalIn]
 simp only [Sem.run_bind, run_underlying Try.underlying54, Result.andThen_ok, hs, Std.Legacy.Range.forIn_eq_forIn_range', Std.Legacy.Range.size]
 rw [show List.range' 0 ((3 - 0 + 1 - 1) / 1) = [0, 1, 2] from rfl]
 have p0 := hp #[Value.int .i64 a, .int .i64 b, .int .i64 c] 0 _ rfl
 have p1 := hp #[Value.int .i64 a, .int .i64 b, .int .i64 c] 1 _ rfl
 have p2 := hp #[Value.int .i64 a, .int .i64 b, .int .i64 c] 2 _ rfl
 have r0 := hp #[Value.int .i64 x, .int .i64 y, .int .i64 z] 0 _ rfl
 have r1 := hp #[Value.int .i64 x, .int .i64 y, .int .i64 z] 1 _ rfl
 have r2 := hp #[Value.int .i64 x, .int .i64 y, .int .i64 z] 2 _ rfl
 clear hp
 cases h1 : (a == x) <;> cases h2 : (b == y) <;> cases h3 : (c == z) <;> simp [List.forIn_cons, Sem.run_bind, p0, p1, p2, r0, r1, r2, hi, h1, h2, h3]
theorem neI3 (a b c x y z : Int) (w : World) : (binOp .neq 54 (.agg #[.int .i64 a, .int .i64 b, .int .i64 c]) (.agg #[.int .i64 x, .int .i64 y, .int .i64 z])).run Try.prog w = .ok (.bool (!(a == x && (b == y && c == z)))) w := by
 have h := eqI3 a b c x y z w 9998
 have hi : (Op.equal 54 (.agg #[.int .i64 a, .int .i64 b, .int .i64 c]) (.agg #[.int .i64 x, .int .i64 y, .int .i64 z])).run Try.prog w = .ok (a == x && (b == y && c == z)) w := h
 simp [binOp, hi]
theorem three_cells {w : World} {b : Nat} {x y z : Value} {t : TypeId} (h : w.heap[b]? = some (.cells #[x, y, z] t (0, 0))) :
  w.cell? ⟨b, 0, none⟩ = some x ∧ w.cell? ⟨b, 1, none⟩ = some y ∧ w.cell? ⟨b, 2, none⟩ = some z ∧ w.frozen? ⟨b, 0, none⟩ = false ∧ w.frozen? ⟨b, 1, none⟩ = false ∧ w.frozen? ⟨b, 2, none⟩ = false := by
 refine ⟨?_, ?_, ?_, ?_, ?_, ?_⟩ <;> simp [World.cell?, World.frozen?, h]
theorem modify_cells {w : World} {b o : Nat} {cs : Array Value} {u : Value} {t : TypeId} (h : w.heap[b]? = some (.cells cs t (0, 0))) : (w.setCell ⟨b, o, none⟩ u).heap[b]? = some (.cells (cs.setIfInBounds o u) t (0, 0)) := by
 have hlt := lt_of_block h
 have h' : w.heap[b] = .cells cs t (0, 0) := by simpa [Array.getElem?_eq_getElem hlt] using h
 show (w.heap.modify b _)[b]? = _
 rw [Array.getElem?_eq_getElem (by simpa using hlt), Array.getElem_modify_self, h']
 rfl
theorem three_set {w : World} {b : Nat} {x y z x' y' z' : Value} {t : TypeId} (h : w.heap[b]? = some (.cells #[x, y, z] t (0, 0))) :
  (((w.setCell ⟨b, 0, none⟩ x').setCell ⟨b, 1, none⟩ y').setCell ⟨b, 2, none⟩ z').heap[b]? = some (.cells #[x', y', z'] t (0, 0)) :=
 modify_cells (modify_cells (modify_cells h))
theorem set_other {w : World} {b c o : Nat} {u : Value} (h : c ≠ b) : (w.setCell ⟨b, o, none⟩ u).heap[c]? = w.heap[c]? := Below.heap_setCell w ⟨b, o, none⟩ u c h
theorem str_mid (A : Option Addr) (c : Nat) (xs : List ByteArray) (lo hi : Nat) (h1 : lo ≤ hi) (h2 : hi ≤ xs.length) (hc : xs.length ≤ c) :
  ∃ A' : Option Addr, (∀ W, (Instr.slice 22 (.slice A xs.length c) (some (.int .i64 (lo : Int))) (some (.int .i64 (hi : Int))) none).run Try.prog W = .ok (.slice A' ((xs.take hi).drop lo).length (c - lo)) W) ∧
   (∀ W, Kd.C Kd.string W A xs.length xs → Kd.C Kd.string W A' ((xs.take hi).drop lo).length ((xs.take hi).drop lo)) ∧ ((xs.take hi).drop lo).length ≤ c - lo := by
 have hl : ((xs.take hi).drop lo).length = hi - lo := by rw [List.length_drop, List.length_take]; omega
 obtain ⟨i0, hi0, hzz⟩ := Option.map_eq_some_iff.1 info9
 simp only [Prod.mk.injEq] at hzz
 refine ⟨if c = lo then A else A.map (·.add lo), fun W => ?_, fun W h => ?_, by rw [hl]; omega⟩
 ·have ht := Try.underlying22
  have hel : Try.prog.elem 22 = 9 := by simp [Program.elem, ht]
  have hu : Try.prog.underlying 22 = some (.slice (Try.prog.elem 22)) := by rw [hel]; exact ht
  rw [run_slice_lh W 22 A xs.length c hu .i64 .i64 lo hi (by omega) (by omega) (by omega), hel, hl]
  simp [sizeOf, typeInfo, hi0, hzz.2.1, sliced, Result.andThen]
 ·have h3 := Kd.C_mid h h1 h2 hc
  rw [show Kd.string.sz = 1 from rfl, Nat.mul_one] at h3
  exact h3
end Go.Proofs.Ytahpbpacjciddaa.Pr
end
section
namespace Go.Proofs.Ytahpbpacjciddaa.Pr
open Go.RowKit Go.Proofs.YtahpbpacjciddaaW.PrintWords Go.Proofs.YtahpbpacjciddaaW.PrintLast Go.Proofs.YtahpbpacjciddaaW.PrintMore
theorem Ev.pos {α : Type} {c : Prop} [Decidable c] {A B : Nat → Option α} {r : α} (h : c) (k : Ev A r) : Ev (fun n => if c then A n else B n) r := Ev.congr (fun _ => if_pos h) k
theorem Ev.neg {α : Type} {c : Prop} [Decidable c] {A B : Nat → Option α} {r : α} (h : ¬ c) (k : Ev B r) : Ev (fun n => if c then A n else B n) r := Ev.congr (fun _ => if_neg h) k
theorem Ev.bd {α β : Type} {g : Nat → Option α} {f : Nat → α → Option β} {a : α} {r : β} (h : Ev g a) (k : Ev (fun n => f n a) r) : Ev (fun n => (g n).bind fun t => f n t) r := Ev.bind h k
theorem Ev.bs {α β : Type} {f : Nat → α → Option β} {a : α} {r : β} (k : Ev (fun n => f n a) r) : Ev (fun n => (some a).bind fun t => f n t) r := k
theorem Ev.bc {α β : Type} {g : Option α} {f : Nat → α → Option β} {a : α} {r : β} (h : g = some a) (k : Ev (fun n => f n a) r) : Ev (fun n => g.bind fun t => f n t) r := by
 subst h
 exact k
theorem Ev.rt {α : Type} {a r : α} (h : a = r) : Ev (fun _ => some a) r := by
 subst h
 exact Ev.now a
theorem Ev.eq {α : Type} {g : Nat → Option α} {a r : α} (h : a = r) (k : Ev g a) : Ev g r := h ▸ k
theorem Ev.ke {α : Type} {f : Option α} {r : α} (h : f = some r) : Ev (fun _ => f) r := ⟨0, fun _ _ => h⟩
theorem Ev.uniq {α : Type} {g : Nat → Option α} {a b : α} (h : Ev g a) (k : Ev g b) : a = b := by
 obtain ⟨K, h⟩ := h
 obtain ⟨K', k⟩ := k
 have h1 := h (max K K') (by omega)
 have h2 := k (max K K') (by omega)
 rw [h1] at h2
 exact Option.some.inj h2
theorem w64 {x : Int} (h : -9223372036854775808 ≤ x ∧ x ≤ 9223372036854775807) : wrap64 x = x := by
 unfold wrap64
 omega
theorem toList_inj {a b : ByteArray} : a.toList = b.toList ↔ a = b := by
 constructor
 ·intro h
  rw [ByteArray.toList_eq, ByteArray.toList_eq] at h
  exact Go.WideShapes.bytes_inj h
 ·intro h
  rw [h]
theorem rdOf_at {α : Type} (d : α) (l : List α) (i : Nat) (h : i < l.length) : rdOf d l (i : Int) = l[i] := by
 simp [rdOf, h]
theorem rd_at (l : List Int) (i : Nat) (h : i < l.length) : rd l (i : Int) = l[i] := by
 simp [rd, h]
theorem take_succ_at {α : Type} (l : List α) (i : Nat) (h : i < l.length) : l.take (i + 1) = l.take i ++ [l[i]] := by
 rw [List.take_succ_eq_append_getElem h]
theorem drop_at {α : Type} (l : List α) (i : Nat) (h : i < l.length) : l.drop i = l[i] :: l.drop (i + 1) := List.drop_eq_getElem_cons h
theorem mx_eq (a b : Nat) : mx (a : Int) (b : Int) = ((max a b : Nat) : Int) := by
 unfold mx
 split <;> omega
end Go.Proofs.Ytahpbpacjciddaa.Pr
end
section
namespace Go.Proofs.Ytahpbpacjciddaa.Pr
open Go.RowKit Go.Proofs.YtahpbpacjciddaaW.PrintWords Go.Proofs.YtahpbpacjciddaaW.PrintLast Go.Proofs.YtahpbpacjciddaaW.PrintMore
attribute [local go_sem] max2_int min2_int max_two min_two max_three min_three max_four min_four   
def slices_Equal_string_string.l0 : Nat → List ByteArray → List ByteArray → Int → Int → Option (Bool)
 | 0, _, _, _, _ => none
 | k + 1, x0, x1, x12, x13 => if x13 < x12 then (if 0 ≤ x13 then (if x13 < (x0.length : Int) then (if x13 < (x1.length : Int) then (if (rdOf ByteArray.empty x0 x13).toList = (rdOf ByteArray.empty x1 x13).toList then (slices_Equal_string_string.l0 k x0 x1 x12 (wrap64 (x13 + 1))) else (some false)) else (none)) else (none)) else (none)) else (some true)
def slices_Equal_string_string.f (k : Nat) (l0 : List ByteArray) (l1 : List ByteArray) : Option (Bool) := if (l0.length : Int) = (l1.length : Int) then (slices_Equal_string_string.l0 k l0 l1 (l0.length : Int) 0) else (some false)
set_option maxHeartbeats 8000000 in
set_option maxRecDepth 100000 in
theorem slices_Equal_string_string.calls (k : Nat) (A0 : Option Addr) (c0 : Nat) (l0 : List ByteArray) (A1 : Option Addr) (c1 : Nat) (l1 : List ByteArray) (r : Bool) (w : World) (hr0 : Kd.C Kd.string w A0 l0.length l0) (hc0 : l0.length ≤ c0) (hr1 : Kd.C Kd.string w A1 l1.length l1) (hc1 : l1.length ≤ c1) (h : slices_Equal_string_string.f k l0 l1 = some r) :
  Calls Try.prog 49 #[.slice A0 l0.length c0, .slice A1 l1.length c1] w fun e w' => e = .returned (.bool r) ∧ Drawn0 w w' := by
 have HR0 := Aside0.mk hr0
 have HC0 := Aside0.mk hc0
 clear hr0 hc0
 have HR1 := Aside0.mk hr1
 have HC1 := Aside0.mk hc1
 clear hr1 hc1
 have H : (if (l0.length : Int) = (l1.length : Int) then (slices_Equal_string_string.l0 k l0 l1 (l0.length : Int) 0) else (some false)) = some r := h
 clear h
 by_cases c3 : (l0.length : Int) = (l1.length : Int)
 ·rw [if_pos c3] at H
  have c3b0 : ((l0.length : Int) == (l1.length : Int)) = true := beq_iff_eq.mpr c3
  have c3b1 : ((l0.length : Int) != (l1.length : Int)) = false := bne_eq_false_iff_eq.mpr c3
  have c3b2 : (l0.length == l1.length) = true := by first | simpa using c3 | (simp at c3 ⊢; omega)
  clear c3
  have H' := Aside0.mk H
  clear H
  go_enter Try.func49, Try.ntmps49
  go_wp2
  repeat (go_quiet (fail); try go_wp2)
  go_loopg [13] k (fun kq v13 w' => ∃ (x13_1 : Int), v13 = .int .i64 x13_1 ∧ Aside0 (slices_Equal_string_string.l0 kq l0 l1 (l0.length : Int) x13_1 = some r) ∧ Aside0 (kq ≤ k) ∧ Drawn0 w w')
  case atStart => exact ⟨(0), (by first | rfl | (simp; done) | (simp [*]; done)), H', ⟨Nat.le_refl _⟩, by repeat (first | exact Drawn0.refl _ | apply Drawn0.step)⟩
  case round =>
   clear H'
   try clear c1
   try clear p2
   try clear c3
   try clear c3b0
   try clear c3b1
   try clear c3b2
   obtain ⟨x13_1, rfl, HA, HK1, ⟨m1, rfl⟩⟩ := hrel
   cases gk with
   | zero => exact absurd HA.out (by simp [slices_Equal_string_string.l0])
   | succ k1 =>
    have H := HA.out
    clear HA
    simp only [slices_Equal_string_string.l0] at H
    by_cases c4 : x13_1 < (l0.length : Int)
    ·rw [if_pos c4] at H
     have c4b0 : decide (x13_1 < (l0.length : Int)) = true := decide_eq_true c4
     clear c4
     by_cases c5 : 0 ≤ x13_1
     ·rw [if_pos c5] at H
      have c5b0 : decide (0 ≤ x13_1) = true := decide_eq_true c5
      clear c5
      by_cases c6 : x13_1 < (l0.length : Int)
      ·rw [if_pos c6] at H
       have c6b0 : decide (x13_1 < (l0.length : Int)) = true := decide_eq_true c6
       clear c6
       by_cases c7 : x13_1 < (l1.length : Int)
       ·rw [if_pos c7] at H
        have c7b0 : decide (x13_1 < (l1.length : Int)) = true := decide_eq_true c7
        clear c7
        by_cases c8 : (rdOf ByteArray.empty l0 x13_1).toList = (rdOf ByteArray.empty l1 x13_1).toList
        ·rw [if_pos c8] at H
         have c8b0 : ((rdOf ByteArray.empty l0 x13_1).toList == (rdOf ByteArray.empty l1 x13_1).toList) = true := beq_iff_eq.mpr c8
         have c8b1 : ((rdOf ByteArray.empty l0 x13_1).toList != (rdOf ByteArray.empty l1 x13_1).toList) = false := bne_eq_false_iff_eq.mpr c8
         clear c8
         have H' := Aside0.mk H
         clear H
         have p408 : 0 ≤ (x13_1 : Int) := of_decide_eq_true (by first | (with_reducible assumption) | assumption)
         have q408 : x13_1 < (l0.length : Int) := of_decide_eq_true (by first | (with_reducible assumption) | assumption)
         obtain ⟨ad408, e408, hx408_0⟩ := Kd.at_string HR0.out x13_1 p408 q408
         cases e408
         replace p408 := eq_true p408
         replace q408 := eq_true q408
         have p409 : 0 ≤ (x13_1 : Int) := of_decide_eq_true (by first | (with_reducible assumption) | assumption)
         have q409 : x13_1 < (l1.length : Int) := of_decide_eq_true (by first | (with_reducible assumption) | assumption)
         obtain ⟨ad409, e409, hx409_0⟩ := Kd.at_string HR1.out x13_1 p409 q409
         cases e409
         replace p409 := eq_true p409
         replace q409 := eq_true q409
         go_wp2
         repeat (go_quiet (fail); try go_wp2)
         go_roundg k1
         case measure => have := HK1.out; omega
         case rel => exact ⟨(wrap64 (x13_1 + 1)), (by first | rfl | (simp; done) | (simp [*]; done)), H', ⟨by have := HK1.out; omega⟩, by repeat (first | exact Drawn0.refl _ | apply Drawn0.step)⟩
        ·rw [if_neg c8] at H
         have c8b0 : ((rdOf ByteArray.empty l0 x13_1).toList == (rdOf ByteArray.empty l1 x13_1).toList) = false := beq_eq_false_iff_ne.mpr c8
         have c8b1 : ((rdOf ByteArray.empty l0 x13_1).toList != (rdOf ByteArray.empty l1 x13_1).toList) = true := bne_iff_ne.mpr c8
         obtain rfl := Option.some.inj H
         have p408 : 0 ≤ (x13_1 : Int) := of_decide_eq_true (by first | (with_reducible assumption) | assumption)
         have q408 : x13_1 < (l0.length : Int) := of_decide_eq_true (by first | (with_reducible assumption) | assumption)
         obtain ⟨ad408, e408, hx408_0⟩ := Kd.at_string HR0.out x13_1 p408 q408
         cases e408
         replace p408 := eq_true p408
         replace q408 := eq_true q408
         have p409 : 0 ≤ (x13_1 : Int) := of_decide_eq_true (by first | (with_reducible assumption) | assumption)
         have q409 : x13_1 < (l1.length : Int) := of_decide_eq_true (by first | (with_reducible assumption) | assumption)
         obtain ⟨ad409, e409, hx409_0⟩ := Kd.at_string HR1.out x13_1 p409 q409
         cases e409
         replace p409 := eq_true p409
         replace q409 := eq_true q409
         go_wp2
         repeat (go_quiet (fail); try go_wp2)
         go_ret
         exact ⟨by first | rfl | (simp; done) | (simp [*]; done), by repeat (first | exact Drawn0.refl _ | apply Drawn0.step)⟩
       ·rw [if_neg c7] at H
        exact absurd H (by simp)
      ·rw [if_neg c6] at H
       exact absurd H (by simp)
     ·rw [if_neg c5] at H
      exact absurd H (by simp)
    ·rw [if_neg c4] at H
     have c4b0 : decide (x13_1 < (l0.length : Int)) = false := decide_eq_false c4
     clear c4
     obtain rfl := Option.some.inj H
     go_wp2
     repeat (go_quiet (fail); try go_wp2)
     go_ret
     exact ⟨by first | rfl | (simp; done) | (simp [*]; done), by repeat (first | exact Drawn0.refl _ | apply Drawn0.step)⟩
 ·rw [if_neg c3] at H
  have c3b0 : ((l0.length : Int) == (l1.length : Int)) = false := beq_eq_false_iff_ne.mpr c3
  have c3b1 : ((l0.length : Int) != (l1.length : Int)) = true := bne_iff_ne.mpr c3
  have c3b2 : (l0.length == l1.length) = false := by first | simpa using c3 | (simp at c3 ⊢; omega)
  obtain rfl := Option.some.inj H
  go_enter Try.func49, Try.ntmps49
  go_wp2
  repeat (go_quiet (fail); try go_wp2)
  go_ret
  exact ⟨by first | rfl | (simp; done) | (simp [*]; done), by repeat (first | exact Drawn0.refl _ | apply Drawn0.step)⟩
end Go.Proofs.Ytahpbpacjciddaa.Pr
end
section
namespace Go.Proofs.Ytahpbpacjciddaa.Pr
open Go.RowKit Go.Proofs.YtahpbpacjciddaaW.PrintWords Go.Proofs.YtahpbpacjciddaaW.PrintLast Go.Proofs.YtahpbpacjciddaaW.PrintMore
theorem sequal_loop (a b : List ByteArray) (hl : a.length = b.length) (hb : a.length ≤ 9000000000000000000) : ∀ (d i : Nat), i + d = a.length → Ev (fun k => slices_Equal_string_string.l0 k a b (a.length : Int) (i : Int)) (decide (a.drop i = b.drop i)) := by
 intro d
 induction d with
 | zero =>
  intro i hi
  refine Ev.step (fun k => by rw [slices_Equal_string_string.l0]) ?_
  refine Ev.neg (by omega) (Ev.rt ?_)
  rw [List.drop_eq_nil_of_le (by omega), List.drop_eq_nil_of_le (by omega)]
  simp
 | succ d ih =>
  intro i hi
  have h1 : i < a.length := by omega
  have h2 : i < b.length := by omega
  refine Ev.step (fun k => by rw [slices_Equal_string_string.l0]) ?_
  refine Ev.pos (by omega) (Ev.pos (by omega) (Ev.pos (by omega) (Ev.pos (by omega) ?_)))
  rw [rdOf_at _ _ _ h1, rdOf_at _ _ _ h2, drop_at a i h1, drop_at b i h2]
  by_cases h : a[i] = b[i]
  ·refine Ev.pos (by rw [h]) ?_
   rw [w64 (by omega)]
   refine Ev.eq ?_ (ih (i + 1) (by omega))
   rw [Bool.eq_iff_iff, decide_eq_true_iff, decide_eq_true_iff, h, List.cons.injEq]
   simp
  ·refine Ev.neg (fun e => h (toList_inj.1 e)) (Ev.rt ?_)
   symm
   rw [decide_eq_false_iff_not, List.cons.injEq]
   exact fun e => h e.1
theorem sequal_ev (a b : List ByteArray) (hb : a.length ≤ 9000000000000000000) : Ev (fun k => slices_Equal_string_string.f k a b) (decide (a = b)) := by
 unfold slices_Equal_string_string.f
 by_cases h : a.length = b.length
 ·have := sequal_loop a b h hb a.length 0 (by omega)
  rw [List.drop_zero, List.drop_zero] at this
  exact Ev.pos (by omega) this
 ·refine Ev.neg (by omega) (Ev.rt ?_)
  rw [decide_eq_false]
  intro e
  exact h (by rw [e])
theorem sequal_any (A0 : Option Addr) (c0 : Nat) (l0 : List ByteArray) (A1 : Option Addr) (c1 : Nat) (l1 : List ByteArray) (w : World) (hr0 : Kd.C Kd.string w A0 l0.length l0) (hc0 : l0.length ≤ c0) (hr1 : Kd.C Kd.string w A1 l1.length l1) (hc1 : l1.length ≤ c1) (hb : l0.length ≤ 9000000000000000000) :
  Calls Try.prog 49 #[.slice A0 l0.length c0, .slice A1 l1.length c1] w fun e w' => e = .returned (.bool (decide (l0 = l1))) ∧ Drawn0 w w' := by
 obtain ⟨K, hK⟩ := sequal_ev l0 l1 hb
 exact slices_Equal_string_string.calls K A0 c0 l0 A1 c1 l1 _ w hr0 hc0 hr1 hc1 (hK K (Nat.le_refl _))
end Go.Proofs.Ytahpbpacjciddaa.Pr
end
section
namespace Go.Proofs.Ytahpbpacjciddaa.Pr
open Go.RowKit Go.Proofs.YtahpbpacjciddaaW.PrintWords Go.Proofs.YtahpbpacjciddaaW.PrintLast Go.Proofs.YtahpbpacjciddaaW.PrintMore
def kindOf : Bool → Bool → Bool → Int
 | true, true, true => 1
 | true, false, false => 4
 | false, true, false => 2
 | false, false, true => 3
 | _, _, _ => 5
def kindB (b o t : List ByteArray) : Int := kindOf (decide (o = t)) (decide (b = t)) (decide (b = o))
theorem eqB3 (a b c x y z : Bool) (w : World) : Sem.run Try.prog (Op.equalIn 10000 87 (.agg #[.bool a, .bool b, .bool c]) (.agg #[.bool x, .bool y, .bool z])) w = .ok (a == x && (b == y && c == z)) w := by
 cases a <;> cases x <;> cases b <;> cases y <;> cases c <;> cases z <;> kernel_rfl
attribute [local go_sem high] eqB3
set_option maxHeartbeats 4000000 in
set_option maxRecDepth 100000 in
theorem merge_kind.calls (A0 : Option Addr) (c0 : Nat) (l0 : List ByteArray) (A1 : Option Addr) (c1 : Nat) (l1 : List ByteArray) (A2 : Option Addr) (c2 : Nat) (l2 : List ByteArray) (w : World) (hr0 : Kd.C Kd.string w A0 l0.length l0) (hc0 : l0.length ≤ c0) (hr1 : Kd.C Kd.string w A1 l1.length l1) (hc1 : l1.length ≤ c1) (hr2 : Kd.C Kd.string w A2 l2.length l2) (hc2 : l2.length ≤ c2)
  (hb0 : l0.length ≤ 9000000000000000000) (hb1 : l1.length ≤ 9000000000000000000) (hb2 : l2.length ≤ 9000000000000000000) :
  Calls Try.prog 37 #[.agg #[.slice A0 l0.length c0, .slice A1 l1.length c1, .slice A2 l2.length c2]] w fun e w' => e = .returned (.int .u8 (kindB l0 l1 l2)) ∧ Below w.heap.size w w' := by
 have HR0 := Aside0.mk hr0
 have HR1 := Aside0.mk hr1
 have HR2 := Aside0.mk hr2
 have HX0 := Aside0.mk hc0
 have HX1 := Aside0.mk hc1
 have HX2 := Aside0.mk hc2
 have HD0 := Aside0.mk hb0
 have HD1 := Aside0.mk hb1
 have HD2 := Aside0.mk hb2
 clear hr0 hr1 hr2 hc0 hc1 hc2 hb0 hb1 hb2
 obtain ⟨n0, e0⟩ : ∃ n0, n0 = l0.length := ⟨_, rfl⟩
 obtain ⟨n1, e1⟩ : ∃ n1, n1 = l1.length := ⟨_, rfl⟩
 obtain ⟨n2, e2⟩ : ∃ n2, n2 = l2.length := ⟨_, rfl⟩
 rw [← e0, ← e1, ← e2]
 have E0 := Aside0.mk e0
 have E1 := Aside0.mk e1
 have E2 := Aside0.mk e2
 clear e0 e1 e2
 have B3 : ∀ {A B : Option Addr} {c d : Nat} {l m : List ByteArray}, Aside0 (Kd.C Kd.string w A l.length l) → Aside0 (l.length ≤ c) → Aside0 (Kd.C Kd.string w B m.length m) → Aside0 (m.length ≤ d) → Aside0 (l.length ≤ 9000000000000000000) → ∀ W, Below w.heap.size w W → Calls Try.prog 49 #[.slice A l.length c, .slice B m.length d] W fun e w' => e = .returned (.bool (decide (l = m))) ∧ Drawn0 W w' :=
  fun h1 h2 h3 h4 h5 W hW => sequal_any _ _ _ _ _ _ W (Kd.C_below h1.out hW) h2.out (Kd.C_below h3.out hW) h4.out h5.out
 have H12 := B3 HR1 HX1 HR2 HX2 HD1
 have H02 := B3 HR0 HX0 HR2 HX2 HD0
 have H01 := B3 HR0 HX0 HR1 HX1 HD0
 clear B3
 rw [← E0.out] at H02 H01
 rw [← E1.out] at H12 H01
 rw [← E2.out] at H12 H02
 unfold kindB
 obtain ⟨b12, q12⟩ : ∃ b, b = decide (l1 = l2) := ⟨_, rfl⟩
 obtain ⟨b02, q02⟩ : ∃ b, b = decide (l0 = l2) := ⟨_, rfl⟩
 obtain ⟨b01, q01⟩ : ∃ b, b = decide (l0 = l1) := ⟨_, rfl⟩
 rw [← q12, ← q02, ← q01]
 rw [← q12] at H12
 rw [← q02] at H02
 rw [← q01] at H01
 clear q12 q02 q01 HR0 HR1 HR2 HX0 HX1 HX2 HD0 HD1 HD2 E0 E1 E2
 have J12 := Aside0.mk H12
 have J02 := Aside0.mk H02
 have J01 := Aside0.mk H01
 clear H12 H02 H01
 go_enter Try.func37, Try.ntmps37
 go_upto_region 1 with fail
 go_cut [3] (fun s3 wc => ∃ g : Nat, s3 = .pointer (some ⟨g, 0, none⟩) ∧ wc.cell? ⟨g, 0, none⟩ = some (.bool b12) ∧ wc.cell? ⟨g, 1, none⟩ = some (.bool b02) ∧ wc.cell? ⟨g, 2, none⟩ = some (.bool b01) ∧ Aside0 (Below w.heap.size w wc))
 case first =>
  go_region_held3 (fun w' => w'.cell? ⟨w.heap.size, 0, none⟩ = some (.slice A0 n0 c0) ∧ w'.cell? ⟨w.heap.size, 1, none⟩ = some (.slice A1 n1 c1) ∧ w'.cell? ⟨w.heap.size, 2, none⟩ = some (.slice A2 n2 c2)) (go_keep)
   (first
    | (go_at_call 49; (with_reducible refine (J12.out _ ?_).mono ?_); (repeat (first | exact Below.refl _ _ | apply below_alloc | apply pw_below_drewN | apply below_drew1)); rintro e w' ⟨rfl, ⟨q, rfl⟩⟩)
    | (go_at_call 49; (with_reducible refine (J02.out _ ?_).mono ?_); (repeat (first | exact Below.refl _ _ | apply below_alloc | apply pw_below_drewN | apply below_drew1)); rintro e w' ⟨rfl, ⟨q, rfl⟩⟩)
    | (go_at_call 49; (with_reducible refine (J01.out _ ?_).mono ?_); (repeat (first | exact Below.refl _ _ | apply below_alloc | apply pw_below_drewN | apply below_drew1)); rintro e w' ⟨rfl, ⟨q, rfl⟩⟩))
  all_goals (go_wp2_with fail; go_meet)
  all_goals exact ⟨_, rfl, by go_simp, by go_simp, by go_simp, ⟨by repeat (first | exact Below.refl _ _ | apply below_alloc | apply pw_below_drewN | apply below_drew1 | (refine Below.setCell ?_ (by simp) _))⟩⟩
 case rest =>
  obtain ⟨g, rfl, h0, h1, h2, HB⟩ := hcut
  cases b12 <;> cases b02 <;> cases b01
  all_goals
   go_wp2
   go_ret
   exact ⟨rfl, HB.out⟩
end Go.Proofs.Ytahpbpacjciddaa.Pr
end
section
namespace Go.Proofs.Ytahpbpacjciddaa.Pr
open Go.RowKit Go.Proofs.YtahpbpacjciddaaW.PrintWords Go.Proofs.YtahpbpacjciddaaW.PrintLast Go.Proofs.YtahpbpacjciddaaW.PrintMore
set_option maxRecDepth 20000
def slices_Clone.f (l0 : List ByteArray) : Option (List ByteArray) := if l0.length < 8796093022208 then some l0 else none
set_option maxHeartbeats 2000000 in
theorem slices_Clone.calls (A0 : Option Addr) (c0 : Nat) (l0 : List ByteArray) (r : List ByteArray) (w : World) (hr0 : Kd.C Kd.string w A0 l0.length l0) (hc0 : l0.length ≤ c0) (h : slices_Clone.f l0 = some r) :
    Calls Try.prog 43 #[.slice A0 l0.length c0] w fun e w' => ∃ v0_ : Value, e = .returned (v0_) ∧ Kd.R Kd.string 9 w' w.heap.size (fun _ => True) v0_ r ∧ Below w.heap.size w w' := by
  have qn : ∀ (w : World) (a : Option Addr) (n c n' c' : Nat), (binOp .eql 22 (.slice a n c) (.slice none n' c')).run Try.prog w = .ok (.bool a.isNone) w := fun w a n c n' c' => Lib.run_eql_slice_nil w _ _ a n c n' c' Try.underlying22
  unfold slices_Clone.f at h
  split at h
  · rename_i hl
    injection h with h
    subst h
    cases A0 with
    | none =>
      obtain rfl : l0 = [] := by
        by_cases hp : 0 < l0.length
        · obtain ⟨ad, e, _⟩ := hr0.2.2 hp
          cases e
        · exact List.length_eq_zero_iff.1 (by omega)
      clear hr0
      go_enter Try.func43, Try.ntmps43
      go_wp2
      go_ret
      exact ⟨_, rfl, Kd.R_nil _ _ _ _ _, by repeat (first | exact Below.refl _ _ | apply below_drew1 | apply pw_below_drewN)⟩
    | some ad =>
      have HR0 := Aside0.mk hr0
      have HL := Aside0.mk hl
      clear hr0 hl
      go_enter Try.func43, Try.ntmps43
      go_wp2_with (first
        | (refine Kd.R_lit Kd.string (w0 := w) w.heap.size 9 rfl rfl (xs := ([] : List ByteArray)) (inner := []) (ok := fun _ => True) (okp := fun _ => True) ?hr ?hp (fun _ hk => hk) trivial (by repeat (first | exact Below.refl _ _ | apply below_drew1 | apply pw_below_drewN)) (below_size (by repeat (first | exact Below.refl _ _ | apply below_drew1 | apply pw_below_drewN))) (by simp) ?_
           (case hr => first | (go_simp; done) | (go_simp; rfl))
           (case hp => exact (Reps.none _ _))
           rintro v1 w1 ho hb hg hat
           obtain ⟨A6, c6, rfl⟩ := Kd.R_slice ho
           have HO := Aside0.mk ho
           have HB := Aside0.mk hb
           clear ho hb hg hat)
        | (at_builtin
           refine Kd.R_append_rows Kd.string (w0 := w) w.heap.size rfl _ _ 22 9 (.string ⟨#[]⟩) 16 rfl Try.underlying22 info9 rfl (by decide) (by omega) (.slice A6 0 c6) [] l0 _ _ _ (fun _ => True) (fun _ => False) rfl rfl HO.out (Kd.C_below HR0.out HB.out) (fun _ _ h => h) (fun _ h => h.elim) (fun _ _ => trivial) HB.out (below_size HB.out) (by have := HL.out; simp; omega) ?_
           rintro v2 w2 ho2 hb2 hg2 hat2
           have HO2 := Aside0.mk ho2
           have HB2 := Aside0.mk hb2
           clear ho2 hb2 hg2 hat2))
      go_ret
      exact ⟨_, rfl, HO2.out, HB2.out⟩
  · cases h
end Go.Proofs.Ytahpbpacjciddaa.Pr
end
section
namespace Go.Proofs.Ytahpbpacjciddaa.Pr
open Go.RowKit Go.Proofs.YtahpbpacjciddaaW.PrintWords Go.Proofs.YtahpbpacjciddaaW.PrintLast Go.Proofs.YtahpbpacjciddaaW.PrintMore
set_option maxHeartbeats 4000000 in
set_option maxRecDepth 100000 in
theorem merge_piece.calls (A0 : Option Addr) (c0 : Nat) (l0 : List ByteArray) (A1 : Option Addr) (c1 : Nat) (l1 : List ByteArray) (A2 : Option Addr) (c2 : Nat) (l2 : List ByteArray) (w : World) (hr0 : Kd.C Kd.string w A0 l0.length l0) (hc0 : l0.length ≤ c0) (hr1 : Kd.C Kd.string w A1 l1.length l1) (hc1 : l1.length ≤ c1) (hr2 : Kd.C Kd.string w A2 l2.length l2) (hc2 : l2.length ≤ c2)
  (hb0 : l0.length < 8796093022208) (hb1 : l1.length < 8796093022208) (hb2 : l2.length < 8796093022208) :
  Calls Try.prog 28 #[.agg #[.slice A0 l0.length c0, .slice A1 l1.length c1, .slice A2 l2.length c2]] w fun e w' => ∃ v0 v1 v2 : Value, e = .returned (.agg #[.int .u8 (kindB l0 l1 l2), v0, v1, v2]) ∧ Kd.R Kd.string 9 w' w.heap.size (fun _ => True) v0 l0 ∧ Kd.R Kd.string 9 w' w.heap.size (fun _ => True) v1 l1 ∧ Kd.R Kd.string 9 w' w.heap.size (fun _ => True) v2 l2 ∧ Below w.heap.size w w' := by
 have HX0 := Aside0.mk hc0
 have HX1 := Aside0.mk hc1
 have HX2 := Aside0.mk hc2
 have HD0 := Aside0.mk (show l0.length ≤ 9000000000000000000 by omega)
 have HD1 := Aside0.mk (show l1.length ≤ 9000000000000000000 by omega)
 have HD2 := Aside0.mk (show l2.length ≤ 9000000000000000000 by omega)
 have HE0 := Aside0.mk (show slices_Clone.f l0 = some l0 from if_pos hb0)
 have HE1 := Aside0.mk (show slices_Clone.f l1 = some l1 from if_pos hb1)
 have HE2 := Aside0.mk (show slices_Clone.f l2 = some l2 from if_pos hb2)
 clear hc0 hc1 hc2 hb0 hb1 hb2
 obtain ⟨W, hW⟩ : ∃ W, W = (w.alloc (.cells #[.slice A0 l0.length c0, .slice A1 l1.length c1, .slice A2 l2.length c2] 55)).alloc (.cells #[.int .u8 0, .slice none 0 0, .slice none 0 0, .slice none 0 0] 34) := ⟨_, rfl⟩
 have HW := Aside0.mk (show Below w.heap.size w W by rw [hW]; exact ((Below.refl _ _).alloc (Nat.le_refl _) _).alloc (by simp) _)
 have HR0 := Aside0.mk (Kd.C_below hr0 HW.out)
 have HR1 := Aside0.mk (Kd.C_below hr1 HW.out)
 have HR2 := Aside0.mk (Kd.C_below hr2 HW.out)
 have hsz : W.heap.size = w.heap.size + 1 + 1 := by rw [hW]; simp
 have LG := Aside0.mk (show w.heap.size < W.drew.heap.size by show w.heap.size < W.heap.size; omega)
 have LG1 := Aside0.mk (show w.heap.size + 1 < W.drew.heap.size by show w.heap.size + 1 < W.heap.size; omega)
 have LS := Aside0.mk (show w.heap.size + 1 + 1 = W.drew.heap.size from hsz.symm)
 have C0 := Aside0.mk (show W.drew.cell? ⟨w.heap.size, 0, none⟩ = some (.slice A0 l0.length c0) by rw [hW]; go_simp)
 have C1 := Aside0.mk (show W.drew.cell? ⟨w.heap.size, 1, none⟩ = some (.slice A1 l1.length c1) by rw [hW]; go_simp)
 have C2 := Aside0.mk (show W.drew.cell? ⟨w.heap.size, 2, none⟩ = some (.slice A2 l2.length c2) by rw [hW]; go_simp)
 have HSZ := Aside0.mk (show ∀ X, Below W.drew.heap.size W.drew X → (∃ u, X.cell? ⟨w.heap.size + 1, 0, none⟩ = some u) ∧ (∃ u, X.cell? ⟨w.heap.size + 1, 1, none⟩ = some u) ∧ (∃ u, X.cell? ⟨w.heap.size + 1, 2, none⟩ = some u) ∧ (∃ u, X.cell? ⟨w.heap.size + 1, 3, none⟩ = some u) ∧ X.frozen? ⟨w.heap.size + 1, 0, none⟩ = false ∧ X.frozen? ⟨w.heap.size + 1, 1, none⟩ = false ∧ X.frozen? ⟨w.heap.size + 1, 2, none⟩ = false ∧ X.frozen? ⟨w.heap.size + 1, 3, none⟩ = false from fun X hX =>
  ⟨⟨_, pc_keep hX LG1.out (show W.drew.cell? ⟨w.heap.size + 1, 0, none⟩ = some (.int .u8 0) by rw [hW]; go_simp)⟩, ⟨_, pc_keep hX LG1.out (show W.drew.cell? ⟨w.heap.size + 1, 1, none⟩ = some (.slice none 0 0) by rw [hW]; go_simp)⟩, ⟨_, pc_keep hX LG1.out (show W.drew.cell? ⟨w.heap.size + 1, 2, none⟩ = some (.slice none 0 0) by rw [hW]; go_simp)⟩, ⟨_, pc_keep hX LG1.out (show W.drew.cell? ⟨w.heap.size + 1, 3, none⟩ = some (.slice none 0 0) by rw [hW]; go_simp)⟩,
   pc_frozen hX LG1.out (by rw [hW]; go_simp), pc_frozen hX LG1.out (by rw [hW]; go_simp), pc_frozen hX LG1.out (by rw [hW]; go_simp), pc_frozen hX LG1.out (by rw [hW]; go_simp)⟩)
 clear hr0 hr1 hr2 hsz
 go_enter Try.func28, Try.ntmps28
 go_upto_region 1 with fail
 rw [← hW]
 clear hW
 refine start_ (n := 13) (S := fun w' => w'.cell? ⟨w.heap.size, 0, none⟩ = some (.slice A0 l0.length c0) ∧ w'.cell? ⟨w.heap.size, 1, none⟩ = some (.slice A1 l1.length c1) ∧ w'.cell? ⟨w.heap.size, 2, none⟩ = some (.slice A2 l2.length c2)) (ds := [12]) #[false, false, false, false, false, false, false, false, false, false, false, false, false] (by kernel_rfl) rfl rfl ⟨C0.out, C1.out, C2.out⟩ (fun hHeld => ?_)
 refine pure_ (i := 2) (N := some 5) (v := ?_) (a' := ?_) #[false, false, true, false, false, false, false, false, false, false, false, false, false] rfl rfl (by kernel_rfl) (fun _ _ _ h => h) (Or.inl ⟨by rfl, ?_⟩) ?_ ?_; rotate_left; (focus intro w'; go_simp; with_reducible rfl); rotate_left; (focus go_simp; rfl)
 refine pure_ (i := 5) (N := some 8) (v := ?_) (a' := ?_) #[false, false, true, false, false, true, false, false, false, false, false, false, false] rfl rfl (by kernel_rfl) (fun _ _ _ h => h) (Or.inl ⟨by rfl, ?_⟩) ?_ ?_; rotate_left; (focus intro w'; go_simp; with_reducible rfl); rotate_left; (focus go_simp; rfl)
 refine pure_ (i := 8) (N := some 11) (v := ?_) (a' := ?_) #[false, false, true, false, false, true, false, false, true, false, false, false, false] rfl rfl (by kernel_rfl) (fun _ _ _ h => h) (Or.inl ⟨by rfl, ?_⟩) ?_ ?_; rotate_left; (focus intro w'; go_simp; with_reducible rfl); rotate_left; (focus go_simp; rfl)
 refine take_ (i := 0) (N := some 3) (v := ?_) (a' := ?_) #[true, false, true, false, false, true, false, false, true, false, false, false, false] rfl rfl (by kernel_rfl) (fun _ _ _ h => h) (Or.inl ⟨by rfl, ?_⟩) hHeld ?_ ?_; rotate_left; (focus rintro w' ⟨s0, s1, s2⟩; go_simp; with_reducible rfl); rotate_left; (focus go_simp; rfl)
 refine take_ (i := 3) (N := some 6) (v := ?_) (a' := ?_) #[true, false, true, true, false, true, false, false, true, false, false, false, false] rfl rfl (by kernel_rfl) (fun _ _ _ h => h) (Or.inl ⟨by rfl, ?_⟩) hHeld ?_ ?_; rotate_left; (focus rintro w' ⟨s0, s1, s2⟩; go_simp; with_reducible rfl); rotate_left; (focus go_simp; rfl)
 refine take_ (i := 6) (N := some 9) (v := ?_) (a' := ?_) #[true, false, true, true, false, true, true, false, true, false, false, false, false] rfl rfl (by kernel_rfl) (fun _ _ _ h => h) (Or.inl ⟨by rfl, ?_⟩) hHeld ?_ ?_; rotate_left; (focus rintro w' ⟨s0, s1, s2⟩; go_simp; with_reducible rfl); rotate_left; (focus go_simp; rfl)
 refine take_ (i := 9) (N := some 12) (v := ?_) (a' := ?_) #[true, false, true, true, false, true, true, false, true, true, false, false, false] rfl rfl (by kernel_rfl) (fun _ _ _ h => h) (Or.inl ⟨by rfl, ?_⟩) hHeld ?_ ?_; rotate_left; (focus rintro w' ⟨s0, s1, s2⟩; go_simp; with_reducible rfl); rotate_left; (focus go_simp; rfl)
 refine one_ (i := 1) (N := some 4) #[true, true, true, true, false, true, true, false, true, true, false, false, false] rfl rfl (by kernel_rfl) (by decide) (fun K hK => ?_)
 refine goes_ Try.func37 (by kernel_rfl) rfl #[.agg #[.slice A0 l0.length c0, .slice A1 l1.length c1, .slice A2 l2.length c2]] (by rfl) rfl rfl (by simp only [List.map_toArray, List.map_cons, List.map_nil]; rfl) ?_
 with_reducible refine (merge_kind.calls A0 c0 l0 A1 c1 l1 A2 c2 l2 _ (Kd.C_drew HR0.out) HX0.out (Kd.C_drew HR1.out) HX1.out (Kd.C_drew HR2.out) HX2.out HD0.out HD1.out HD2.out).mono ?_
 rintro e w1 ⟨rfl, hb1⟩
 refine ⟨_, rfl, ?_⟩
 have HQ1 := Aside0.mk hb1
 have HB1 := Aside0.mk hb1
 clear hb1
 refine hK.out _ _ ⟨(pc_keep HQ1.out (by exact LG.out) C0.out), (pc_keep HQ1.out (by exact LG.out) C1.out), (pc_keep HQ1.out (by exact LG.out) C2.out)⟩ (fun hHeld => ?_)
 clear hK K
 refine norm_ (a' := ?_) ?_ ?_
 rotate_left
 ·show Act.put _ (some 4) _ = _
  simp only [Act.put, List.setIfInBounds_toArray, List.set_cons_zero, List.set_cons_succ, i64_w, i32_w]
  rfl
 refine one_ (i := 4) (N := some 7) #[true, true, true, true, true, true, true, false, true, true, false, false, false] rfl rfl (by kernel_rfl) (by decide) (fun K hK => ?_)
 refine goes_ Try.func43 (by kernel_rfl) rfl #[.slice A0 l0.length c0] (by rfl) rfl rfl (by simp only [List.map_toArray, List.map_cons, List.map_nil]; rfl) ?_
 with_reducible refine (slices_Clone.calls A0 c0 l0 l0 _ (Kd.C_below (Kd.C_drew HR0.out) HQ1.out) HX0.out HE0.out).mono ?_
 rintro e w2 ⟨vv2, rfl, hv2, hb2⟩
 refine ⟨_, rfl, ?_⟩
 obtain ⟨B2, d2, rfl⟩ := Kd.R_slice hv2
 have V2 := Aside0.mk hv2
 clear hv2
 have HQ2 := Aside0.mk (Below.trans HQ1.out (Below.mono hb2 (Below.size HQ1.out)))
 have HB2 := Aside0.mk hb2
 clear hb2
 refine hK.out _ _ ⟨(pc_keep HQ2.out (by exact LG.out) C0.out), (pc_keep HQ2.out (by exact LG.out) C1.out), (pc_keep HQ2.out (by exact LG.out) C2.out)⟩ (fun hHeld => ?_)
 clear hK K
 refine norm_ (a' := ?_) ?_ ?_
 rotate_left
 ·show Act.put _ (some 7) _ = _
  simp only [Act.put, List.setIfInBounds_toArray, List.set_cons_zero, List.set_cons_succ, i64_w, i32_w]
  rfl
 refine one_ (i := 7) (N := some 10) #[true, true, true, true, true, true, true, true, true, true, false, false, false] rfl rfl (by kernel_rfl) (by decide) (fun K hK => ?_)
 refine goes_ Try.func43 (by kernel_rfl) rfl #[.slice A1 l1.length c1] (by rfl) rfl rfl (by simp only [List.map_toArray, List.map_cons, List.map_nil]; rfl) ?_
 with_reducible refine (slices_Clone.calls A1 c1 l1 l1 _ (Kd.C_below (Kd.C_drew HR1.out) HQ2.out) HX1.out HE1.out).mono ?_
 rintro e w3 ⟨vv3, rfl, hv3, hb3⟩
 refine ⟨_, rfl, ?_⟩
 obtain ⟨B3, d3, rfl⟩ := Kd.R_slice hv3
 have V3 := Aside0.mk hv3
 clear hv3
 have HQ3 := Aside0.mk (Below.trans HQ2.out (Below.mono hb3 (Below.size HQ2.out)))
 have HB3 := Aside0.mk hb3
 clear hb3
 refine hK.out _ _ ⟨(pc_keep HQ3.out (by exact LG.out) C0.out), (pc_keep HQ3.out (by exact LG.out) C1.out), (pc_keep HQ3.out (by exact LG.out) C2.out)⟩ (fun hHeld => ?_)
 clear hK K
 refine norm_ (a' := ?_) ?_ ?_
 rotate_left
 ·show Act.put _ (some 10) _ = _
  simp only [Act.put, List.setIfInBounds_toArray, List.set_cons_zero, List.set_cons_succ, i64_w, i32_w]
  rfl
 refine one_ (i := 10) (N := some 13) #[true, true, true, true, true, true, true, true, true, true, true, false, false] rfl rfl (by kernel_rfl) (by decide) (fun K hK => ?_)
 refine goes_ Try.func43 (by kernel_rfl) rfl #[.slice A2 l2.length c2] (by rfl) rfl rfl (by simp only [List.map_toArray, List.map_cons, List.map_nil]; rfl) ?_
 with_reducible refine (slices_Clone.calls A2 c2 l2 l2 _ (Kd.C_below (Kd.C_drew HR2.out) HQ3.out) HX2.out HE2.out).mono ?_
 rintro e w4 ⟨vv4, rfl, hv4, hb4⟩
 refine ⟨_, rfl, ?_⟩
 obtain ⟨B4, d4, rfl⟩ := Kd.R_slice hv4
 have V4 := Aside0.mk hv4
 clear hv4
 have HQ4 := Aside0.mk (Below.trans HQ3.out (Below.mono hb4 (Below.size HQ3.out)))
 have HB4 := Aside0.mk hb4
 clear hb4
 refine hK.out _ _ ⟨(pc_keep HQ4.out (by exact LG.out) C0.out), (pc_keep HQ4.out (by exact LG.out) C1.out), (pc_keep HQ4.out (by exact LG.out) C2.out)⟩ (fun hHeld => ?_)
 clear hK K
 refine norm_ (a' := ?_) ?_ ?_
 rotate_left
 ·show Act.put _ (some 13) _ = _
  simp only [Act.put, List.setIfInBounds_toArray, List.set_cons_zero, List.set_cons_succ, i64_w, i32_w]
  rfl
 refine pure_ (i := 11) (N := some 14) (v := ?_) (a' := ?_) #[true, true, true, true, true, true, true, true, true, true, true, true, false] rfl rfl (by kernel_rfl) (fun _ _ _ h => h) (Or.inl ⟨by rfl, ?_⟩) ?_ ?_; rotate_left; (focus intro w'; go_simp; with_reducible rfl); rotate_left; (focus go_simp; rfl)
 refine last_ (i := 12) (N := none) #[true, true, true, true, true, true, true, true, true, true, true, true, true] rfl rfl (by kernel_rfl) (by decide) (fun K hK => ?_)
 have hs4 := HSZ.out _ HQ4.out
 obtain ⟨⟨z0, hz0⟩, ⟨z1, hz1⟩, ⟨z2, hz2⟩, ⟨z3, hz3⟩, hy0, hy1, hy2, hy3⟩ := hs4
 refine skip_ (w1 := ?_) (by rfl) rfl ?_ ?_
 rotate_left
 ·go_simp
  rfl
 refine hK.out _ _ ?_
 clear hK K
 refine done_ (by kernel_rfl) ?_
 have V2' := Aside0.mk (Kd.R_below V2.out (Below.trans HB3.out (Below.mono HB4.out (Below.size HB3.out))))
 have V3' := Aside0.mk (Kd.R_below V3.out HB4.out)
 have Z1 := Aside0.mk (show W.drew.heap.size ≤ w1.heap.size from (by have h_ := Below.size HQ1.out; exact h_))
 have Z2 := Aside0.mk (show W.drew.heap.size ≤ w2.heap.size from (by have h_ := Below.size HQ2.out; exact h_))
 have Z3 := Aside0.mk (show W.drew.heap.size ≤ w3.heap.size from (by have h_ := Below.size HQ3.out; exact h_))
 go_wp2
 refine bodyPost_ret (v := .agg #[.int .u8 (kindB l0 l1 l2), .slice B2 l0.length d2, .slice B3 l1.length d3, .slice B4 l2.length d4]) (by simp [results, Try.results28, go_sem, hz0, hz1, hz2, hz3]) rfl ⟨_, _, _, rfl, ?_, ?_, ?_, ?_⟩
 ·exact Kd.R_lower (R_setElder (R_setElder (R_setElder (R_setElder V2'.out (by have := LG1.out; have := Z1.out; show w.heap.size + 1 < _; omega) _) (by have := LG1.out; have := Z1.out; show w.heap.size + 1 < _; omega) _) (by have := LG1.out; have := Z1.out; show w.heap.size + 1 < _; omega) _) (by have := LG1.out; have := Z1.out; show w.heap.size + 1 < _; omega) _) (by have := LG1.out; have := Z1.out; omega)
 ·exact Kd.R_lower (R_setElder (R_setElder (R_setElder (R_setElder V3'.out (by have := LG1.out; have := Z2.out; show w.heap.size + 1 < _; omega) _) (by have := LG1.out; have := Z2.out; show w.heap.size + 1 < _; omega) _) (by have := LG1.out; have := Z2.out; show w.heap.size + 1 < _; omega) _) (by have := LG1.out; have := Z2.out; show w.heap.size + 1 < _; omega) _) (by have := LG1.out; have := Z2.out; omega)
 ·exact Kd.R_lower (R_setElder (R_setElder (R_setElder (R_setElder V4.out (by have := LG1.out; have := Z3.out; show w.heap.size + 1 < _; omega) _) (by have := LG1.out; have := Z3.out; show w.heap.size + 1 < _; omega) _) (by have := LG1.out; have := Z3.out; show w.heap.size + 1 < _; omega) _) (by have := LG1.out; have := Z3.out; show w.heap.size + 1 < _; omega) _) (by have := LG1.out; have := Z3.out; omega)
 ·exact ((((Below.trans HW.out (Below.trans (below_drew1 (Below.refl _ _)) (Below.mono HQ4.out (by have := LG.out; omega)))).setCell (p := ⟨w.heap.size + 1, 0, none⟩) (Nat.le_succ _) _).setCell (p := ⟨w.heap.size + 1, 1, none⟩) (Nat.le_succ _) _).setCell (p := ⟨w.heap.size + 1, 2, none⟩) (Nat.le_succ _) _).setCell (p := ⟨w.heap.size + 1, 3, none⟩) (Nat.le_succ _) _
end Go.Proofs.Ytahpbpacjciddaa.Pr
end
