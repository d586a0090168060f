/- Part 4 of the proof of HunkWide: texts put together. -/
import Derived.Test.YtognfinkolpemaaDoorJHunkWide1
import Derived.Test.YtognfinkolpemaaDoorJHunkWide3
import Derived.Test.YtognfinkolpemaaDoorProg
import Derived.Below
import Derived.Deep.Draws
import Derived.Deep.AppendLies
import Derived.Maps.AppendAt
import Derived.OwnWalk
import Derived.Laws.BytesArg
import Derived.Laws.MakeOwn
import Derived.Laws.OwnMore
import Derived.Deep.OwnRows
import Derived.Tactics
import Derived.Lib.ConvBytes
import Derived.Laws.Slices
import Derived.WalkKit
import Derived.KernelRfl
import Derived.RowKit3
import Derived.Deep.LoopGhost
import Derived.Deep.QuietTactic
import Derived.BigQuiet
import Derived.WideLaws
import Derived.Deep.DeepCutAuto
import Derived.Deep.CutBlock
import Derived.Deep.RegionHeld3
import Derived.Laws.Rows
import Derived.Lib.AppendStr
import Derived.ArgAppend
import Derived.Laws.IdiomCopy
import Derived.OrdersHeld
import Derived.Laws.BitsLemmas
import Derived.RowKit
import Derived.Shelf.Strings.Builder1
import Derived.Shelf.Strings.Builder2
import Derived.Shelf.Strings.OnBuilder
import Derived.Shelf.Small.Strs
import Derived.Shelf.Strings.BuilderF
import Derived.Shelf.Strings.BuilderK
import Derived.Shelf.Strconv.Itoa0
import Derived.Shelf.Strconv.Itoa1
import Derived.Shelf.LaysM
import Derived.Shelf.Strconv.Itoa2
import Derived.Shelf.Strconv.Itoa3
import Derived.Shelf.Strings.Search1
import Derived.Shelf.Slices.Equal
import Derived.Ground.Names2Prog
import Derived.Shelf.Slices.Clone
import Derived.Shelf.Slices.Empties2
import Derived.Lib.SlBytesConst
set_option linter.unusedVariables false
set_option linter.unusedSimpArgs false
section
namespace Go.Proofs.YtognfinkolpemaaDoor.Pr
open Go.RowKit Go.Proofs.YtognfinkolpemaaDoorW.PrintWords Go.Proofs.YtognfinkolpemaaDoorW.PrintLast Go.Proofs.YtognfinkolpemaaDoorW.PrintMore
attribute [local go_sem] max2_int min2_int max_two min_two max_three min_three max_four min_four   
def errW : Option Int → Value
 | none => .nilIface
 | some c => .iface 0 (.int .i64 c)
theorem errW_none : errW none = .nilIface := rfl
theorem errW_some (c : Int) : errW (some c) = .iface 0 (.int .i64 c) := rfl
theorem info3 : (Tryd.prog.info? 3).map (fun i => (i.zero, i.size, i.bytes)) = some (some (.int .i64 0), 1, 8) := by kernel_rfl
theorem info5 : (Tryd.prog.info? 5).map (fun i => (i.zero, i.size, i.bytes)) = some (some (.int .u8 0), 1, 1) := by kernel_rfl
theorem info9 : (Tryd.prog.info? 9).map (fun i => (i.zero, i.size, i.bytes)) = some (some (.string ⟨#[]⟩), 1, 16) := by kernel_rfl
theorem info36 : (Tryd.prog.info? 36).map (fun i => (i.zero, i.size, i.bytes)) = some (some (.agg #[(.int .i64 0), (.slice none 0 0), (.slice none 0 0)]), 3, 56) := by kernel_rfl
theorem info49 : (Tryd.prog.info? 49).map (fun i => (i.zero, i.size, i.bytes)) = some (some (.agg #[(.int .i64 0), (.int .i64 0)]), 2, 16) := by kernel_rfl
theorem info69 : (Tryd.prog.info? 69).map (fun i => (i.zero, i.size, i.bytes)) = some (some (.slice none 0 0), 1, 24) := by kernel_rfl
def rd_Li64 (xs : List (List Int)) (i : Int) : (List Int) := xs.getD i.toNat ([] : List Int)
theorem at_Li64 {w : World} {A : Option Addr} {n : Nat} {xs : List (List Int)} (h : Kd.C (Kd.slice 3 (Kd.int .i64)) w A n xs) (i : Int) (h0 : 0 ≤ i) (h1 : i < n) : ∃ ad A0 c0, A = some ad ∧ w.cell? (ad.add i.toNat) = some (.slice A0 (rd_Li64 xs i).length c0) ∧ (rd_Li64 xs i).length ≤ c0 ∧ (Kd.int .i64).C w A0 (rd_Li64 xs i).length (rd_Li64 xs i) := by
 obtain ⟨ad, c, e, _, hK, hc0⟩ := Kd.C_get h ([] : List Int) i h0 h1
 have hc : ∀ j u, c[j]? = some u → w.cell? (ad.add (i.toNat * 1 + j)) = some u := hc0
 obtain ⟨A0, c0, rfl, l0, g0⟩ := hK
 exact ⟨ad, A0, c0, e, by have hq := hc 0 _ rfl; rwa [Nat.mul_one, Nat.add_zero] at hq, l0, g0⟩
structure S49 where
 f0 : Int
 f1 : Int
def z49 : S49 := ⟨(0 : Int), (0 : Int)⟩
def k49 : Kd S49 := Kd.iso (Kd.pair (Kd.int .i64) (Kd.int .i64)) (fun x : S49 => (x.f0, x.f1))
theorem k49_open {w : World} {x : S49} {cs : List Value} (h : k49.K w x cs) : cs = [.int .i64 x.f0, .int .i64 x.f1] := by
 obtain ⟨_, _, rfl, rfl, rfl⟩ := h
 exact rfl
theorem k49_mkM (w : World) (base : Nat) (ok : Nat → Prop) (x : S49)  : k49.M w base ok x [.int .i64 x.f0, .int .i64 x.f1] := ⟨[.int .i64 x.f0], [.int .i64 x.f1], rfl, rfl, rfl⟩
def rd_T49 (xs : List S49) (i : Int) : S49 := xs.getD i.toNat z49
theorem at_T49 {w : World} {A : Option Addr} {n : Nat} {xs : List S49} (h : Kd.C k49 w A n xs) (i : Int) (h0 : 0 ≤ i) (h1 : i < n) : ∃ ad , A = some ad ∧ w.cell? (ad.add (i.toNat * 2)) = some (.int .i64 (rd_T49 xs i).f0) ∧ w.cell? ⟨(ad.add (i.toNat * 2)).block, (ad.add (i.toNat * 2)).off + 1, none⟩ = some (.int .i64 (rd_T49 xs i).f1) := by
 obtain ⟨ad, c, e, _, hK, hc0⟩ := Kd.C_get h z49 i h0 h1
 have hc : ∀ j u, c[j]? = some u → w.cell? (ad.add (i.toNat * 2 + j)) = some u := hc0
 obtain rfl := k49_open hK
 exact ⟨ad, e, hc 0 _ rfl, by rw [← add_field _ _ 1 (by omega)]; exact hc 1 _ rfl⟩
structure S36 where
 f0 : Int
 f1 : (List ByteArray)
 f2 : (List ByteArray)
def z36 : S36 := ⟨(0 : Int), ([] : List ByteArray), ([] : List ByteArray)⟩
def k36 : Kd S36 := Kd.iso (Kd.pair (Kd.int .i64) (Kd.pair (Kd.slice 9 Kd.string) (Kd.slice 9 Kd.string))) (fun x : S36 => (x.f0, x.f1, x.f2))
theorem k36_open {w : World} {x : S36} {cs : List Value} (h : k36.K w x cs) : ∃ A1 c1 A2 c2, cs = [.int .i64 x.f0, .slice A1 x.f1.length c1, .slice A2 x.f2.length c2] ∧ x.f1.length ≤ c1 ∧ Kd.string.C w A1 x.f1.length x.f1 ∧ x.f2.length ≤ c2 ∧ Kd.string.C w A2 x.f2.length x.f2 := by
 obtain ⟨_, _, rfl, rfl, ⟨_, _, rfl, ⟨A1, c1, rfl, l1, g1⟩, ⟨A2, c2, rfl, l2, g2⟩⟩⟩ := h
 exact ⟨A1, c1, A2, c2, rfl, l1, g1, l2, g2⟩
theorem k36_openM {w : World} {base : Nat} {ok : Nat → Prop} {x : S36} {cs : List Value} (h : k36.M w base ok x cs) : ∃ v1 v2, cs = [.int .i64 x.f0, v1, v2] ∧ Kd.string.R 9 w base ok v1 x.f1 ∧ Kd.string.R 9 w base ok v2 x.f2 := by
 obtain ⟨_, _, rfl, rfl, ⟨_, _, rfl, ⟨v1, rfl, g1⟩, ⟨v2, rfl, g2⟩⟩⟩ := h
 exact ⟨v1, v2, rfl, g1, g2⟩
theorem k36_mk (w : World) (x : S36) {A1 : Option Addr} {c1 : Nat} (l1 : x.f1.length ≤ c1) (g1 : Kd.string.C w A1 x.f1.length x.f1) {A2 : Option Addr} {c2 : Nat} (l2 : x.f2.length ≤ c2) (g2 : Kd.string.C w A2 x.f2.length x.f2) : k36.K w x [.int .i64 x.f0, .slice A1 x.f1.length c1, .slice A2 x.f2.length c2] := ⟨[.int .i64 x.f0], [.slice A1 x.f1.length c1, .slice A2 x.f2.length c2], rfl, rfl, ⟨[.slice A1 x.f1.length c1], [.slice A2 x.f2.length c2], rfl, ⟨A1, c1, rfl, l1, g1⟩, ⟨A2, c2, rfl, l2, g2⟩⟩⟩
theorem k36_mkM (w : World) (base : Nat) (ok : Nat → Prop) (x : S36) {v1 : Value} (g1 : Kd.string.R 9 w base ok v1 x.f1) {v2 : Value} (g2 : Kd.string.R 9 w base ok v2 x.f2) : k36.M w base ok x [.int .i64 x.f0, v1, v2] := ⟨[.int .i64 x.f0], [v1, v2], rfl, rfl, ⟨[v1], [v2], rfl, ⟨v1, rfl, g1⟩, ⟨v2, rfl, g2⟩⟩⟩
theorem k36_mkF (W : World) (ok : Nat → Prop) (x : S36) {A1 : Option Addr} {c1 : Nat} (l1 : x.f1.length ≤ c1) (g1 : Kd.F Kd.string W ok A1 x.f1.length x.f1) {A2 : Option Addr} {c2 : Nat} (l2 : x.f2.length ≤ c2) (g2 : Kd.F Kd.string W ok A2 x.f2.length x.f2) : Kd.FK k36 W ok x [.int .i64 x.f0, .slice A1 x.f1.length c1, .slice A2 x.f2.length c2] := fun W2 hW => k36_mk W2 x l1 (g1 W2 hW) l2 (g2 W2 hW)
def rd_T36 (xs : List S36) (i : Int) : S36 := xs.getD i.toNat z36
theorem at_T36 {w : World} {A : Option Addr} {n : Nat} {xs : List S36} (h : Kd.C k36 w A n xs) (i : Int) (h0 : 0 ≤ i) (h1 : i < n) : ∃ ad A1 c1 A2 c2, A = some ad ∧ w.cell? (ad.add (i.toNat * 3)) = some (.int .i64 (rd_T36 xs i).f0) ∧ w.cell? ⟨(ad.add (i.toNat * 3)).block, (ad.add (i.toNat * 3)).off + 1, none⟩ = some (.slice A1 (rd_T36 xs i).f1.length c1) ∧ w.cell? ⟨(ad.add (i.toNat * 3)).block, (ad.add (i.toNat * 3)).off + 2, none⟩ = some (.slice A2 (rd_T36 xs i).f2.length c2) ∧ (rd_T36 xs i).f1.length ≤ c1 ∧ Kd.string.C w A1 (rd_T36 xs i).f1.length (rd_T36 xs i).f1 ∧ (rd_T36 xs i).f2.length ≤ c2 ∧ Kd.string.C w A2 (rd_T36 xs i).f2.length (rd_T36 xs i).f2 := by
 obtain ⟨ad, c, e, _, hK, hc0⟩ := Kd.C_get h z36 i h0 h1
 have hc : ∀ j u, c[j]? = some u → w.cell? (ad.add (i.toNat * 3 + j)) = some u := hc0
 obtain ⟨A1, c1, A2, c2, rfl, l1, g1, l2, g2⟩ := k36_open hK
 exact ⟨ad, A1, c1, A2, c2, e, hc 0 _ rfl, by rw [← add_field _ _ 1 (by omega)]; exact hc 1 _ rfl, by rw [← add_field _ _ 2 (by omega)]; exact hc 2 _ rfl, l1, g1, l2, g2⟩
end Go.Proofs.YtognfinkolpemaaDoor.Pr
end
section
namespace Go.Proofs.YtognfinkolpemaaDoor.Pr
open Go.RowKit Go.Proofs.YtognfinkolpemaaDoorW.PrintWords Go.Proofs.YtognfinkolpemaaDoorW.PrintLast Go.Proofs.YtognfinkolpemaaDoorW.PrintMore
theorem snc {u v w : World} (h1 : Below u.heap.size u v) (h2 : Below v.heap.size v w) : Below u.heap.size u w := Below.trans h1 (Below.mono h2 (Below.size h1))
structure FF (W : World) (A : Option Addr) (c : Nat) (l : List ByteArray) : Prop where
 len : l.length ≤ c
 ft : Kd.F Kd.string W (fun _ => True) A l.length l
theorem FF.of {W : World} {b : Nat} {ok : Nat → Prop} {v : Value} {l : List ByteArray} (h : Kd.R Kd.string 9 W b ok v l) : ∃ A c, v = .slice A l.length c ∧ FF W A c l := by
 obtain ⟨A, c, rfl⟩ := Kd.R_slice h
 exact ⟨A, c, rfl, (Kd.R_reads' h).2.1, Kd.F_mono (Kd.R_F h) (fun _ _ => trivial)⟩
theorem FF.up {W W1 : World} {A : Option Addr} {c : Nat} {l : List ByteArray} (h : FF W A c l) (hb : Below W.heap.size W W1) : FF W1 A c l := ⟨h.1, Kd.F_below h.2 hb⟩
theorem FF.C {W : World} {A : Option Addr} {c : Nat} {l : List ByteArray} (h : FF W A c l) : Kd.C Kd.string W A l.length l := Kd.F_now h.2
theorem FF.nil (W : World) : FF W none 0 [] := ⟨Nat.le_refl _, Kd.R_F (Kd.R_nil Kd.string 9 W W.heap.size (fun _ => True))⟩
end Go.Proofs.YtognfinkolpemaaDoor.Pr
end
section
namespace Go.Proofs
open Go.Shelf
def Tryd.lays170_ren : Go.Shelf.Ren := ⟨fun | 170 => 29 | n => n, fun | 70 => 54 | 3 => 3 | 0 => 0 | 72 => 56 | 37 => 41 | 5 => 5 | n => n, fun | n => n⟩
theorem Tryd.lays170 : Go.Proofs.Lays.n170 Tryd.prog Tryd.lays170_ren := {
 mixed := by kernel_rfl
 f170 := Tryd.func29.trans (congrArg some (by kernel_rfl))
 t0 := Tryd.underlying0
 a0 := Tryd.isAgg0
 z0 := Tryd.sizeOf0
 v0 := Tryd.zeroValue0
 t3 := Tryd.underlying3
 a3 := Tryd.isAgg3
 z3 := Tryd.sizeOf3
 v3 := Tryd.zeroValue3
 t37 := Tryd.underlying41
 a37 := Tryd.isAgg41
 z37 := Tryd.sizeOf41
 v37 := Tryd.zeroValue41
 t70 := Tryd.underlying54
 a70 := Tryd.isAgg54
 z70 := Tryd.sizeOf54
 v70 := Tryd.zeroValue54
 t72 := Tryd.underlying56
 a72 := Tryd.isAgg56
 z72 := Tryd.sizeOf56
 v72 := Tryd.zeroValue56 }
def Tryd.lays169_ren : Go.Shelf.Ren := ⟨fun | 169 => 30 | n => n, fun | 70 => 54 | 9 => 9 | 0 => 0 | 72 => 56 | 37 => 41 | 127 => 73 | 3 => 3 | 5 => 5 | n => n, fun | n => n⟩
theorem Tryd.lays169 : Go.Proofs.Lays.n169 Tryd.prog Tryd.lays169_ren := {
 mixed := by kernel_rfl
 f169 := Tryd.func30.trans (congrArg some (by kernel_rfl))
 t0 := Tryd.underlying0
 a0 := Tryd.isAgg0
 z0 := Tryd.sizeOf0
 v0 := Tryd.zeroValue0
 t3 := Tryd.underlying3
 a3 := Tryd.isAgg3
 z3 := Tryd.sizeOf3
 v3 := Tryd.zeroValue3
 t9 := Tryd.underlying9
 a9 := Tryd.isAgg9
 z9 := Tryd.sizeOf9
 v9 := Tryd.zeroValue9
 t37 := Tryd.underlying41
 a37 := Tryd.isAgg41
 z37 := Tryd.sizeOf41
 v37 := Tryd.zeroValue41
 t70 := Tryd.underlying54
 a70 := Tryd.isAgg54
 z70 := Tryd.sizeOf54
 v70 := Tryd.zeroValue54
 t72 := Tryd.underlying56
 a72 := Tryd.isAgg56
 z72 := Tryd.sizeOf56
 v72 := Tryd.zeroValue56
 t127 := Tryd.underlying73
 a127 := Tryd.isAgg73
 z127 := Tryd.sizeOf73
 v127 := Tryd.zeroValue73 }
theorem Tryd.Builder_Extra_169 : Builder.Extra Tryd.prog Tryd.lays169_ren := {
 sizeBuilder := by kernel_rfl
 liesBuilder := by kernel_rfl
 t5 := Tryd.underlying5
 a5 := Tryd.isAgg5
 z5 := Tryd.sizeOf5
 v5 := Tryd.zeroValue5
 infoByte := by kernel_rfl
 cellsByte := by kernel_rfl
 sizeByte := by kernel_rfl
 neB5 := by decide }
def Tryd.lays156_ren : Go.Shelf.Ren := ⟨fun | 156 => 37 | 165 => 46 | 166 => 27 | 169 => 30 | 240 => 41 | 241 => 54 | 276 => 50 | 277 => 61 | n => n, fun | 31 => 22 | 9 => 9 | 3 => 3 | 4 => 4 | 0 => 0 | 20 => 20 | 72 => 56 | 76 => 59 | 70 => 54 | 37 => 41 | 75 => 58 | 127 => 73 | 164 => 79 | 5 => 5 | 80 => 63 | n => n, fun | n => n⟩
theorem Tryd.lays156 : Go.Proofs.Lays.n156 Tryd.prog Tryd.lays156_ren := {
 mixed := by kernel_rfl
 f156 := Tryd.func37.trans (congrArg some (by kernel_rfl))
 f165 := Tryd.func46.trans (congrArg some (by kernel_rfl))
 f166 := Tryd.func27.trans (congrArg some (by kernel_rfl))
 f169 := Tryd.func30.trans (congrArg some (by kernel_rfl))
 f240 := Tryd.func41.trans (congrArg some (by kernel_rfl))
 f241 := Tryd.func54.trans (congrArg some (by kernel_rfl))
 f276 := Tryd.func50.trans (congrArg some (by kernel_rfl))
 f277 := Tryd.func61.trans (congrArg some (by kernel_rfl))
 t0 := Tryd.underlying0
 a0 := Tryd.isAgg0
 z0 := Tryd.sizeOf0
 v0 := Tryd.zeroValue0
 t3 := Tryd.underlying3
 a3 := Tryd.isAgg3
 z3 := Tryd.sizeOf3
 v3 := Tryd.zeroValue3
 t4 := Tryd.underlying4
 a4 := Tryd.isAgg4
 z4 := Tryd.sizeOf4
 v4 := Tryd.zeroValue4
 t9 := Tryd.underlying9
 a9 := Tryd.isAgg9
 z9 := Tryd.sizeOf9
 v9 := Tryd.zeroValue9
 t20 := Tryd.underlying20
 a20 := Tryd.isAgg20
 z20 := Tryd.sizeOf20
 v20 := Tryd.zeroValue20
 t31 := Tryd.underlying22
 a31 := Tryd.isAgg22
 z31 := Tryd.sizeOf22
 v31 := Tryd.zeroValue22
 t37 := Tryd.underlying41
 a37 := Tryd.isAgg41
 z37 := Tryd.sizeOf41
 v37 := Tryd.zeroValue41
 t70 := Tryd.underlying54
 a70 := Tryd.isAgg54
 z70 := Tryd.sizeOf54
 v70 := Tryd.zeroValue54
 t72 := Tryd.underlying56
 a72 := Tryd.isAgg56
 z72 := Tryd.sizeOf56
 v72 := Tryd.zeroValue56
 t75 := Tryd.underlying58
 a75 := Tryd.isAgg58
 z75 := Tryd.sizeOf58
 v75 := Tryd.zeroValue58
 t76 := Tryd.underlying59
 a76 := Tryd.isAgg59
 z76 := Tryd.sizeOf59
 v76 := Tryd.zeroValue59
 t127 := Tryd.underlying73
 a127 := Tryd.isAgg73
 z127 := Tryd.sizeOf73
 v127 := Tryd.zeroValue73
 t164 := Tryd.underlying79
 a164 := Tryd.isAgg79
 z164 := Tryd.sizeOf79
 v164 := Tryd.zeroValue79 }
theorem Tryd.Builder_Extra_156 : Builder.Extra Tryd.prog Tryd.lays156_ren := {
 sizeBuilder := by kernel_rfl
 liesBuilder := by kernel_rfl
 t5 := Tryd.underlying5
 a5 := Tryd.isAgg5
 z5 := Tryd.sizeOf5
 v5 := Tryd.zeroValue5
 infoByte := by kernel_rfl
 cellsByte := by kernel_rfl
 sizeByte := by kernel_rfl
 neB5 := by decide }
open Go.RowKit in
theorem Tryd.strings_Join (bk o c : Nat) (xs : List ByteArray) (sep : ByteArray) (w : World) (hcells : ∀ (j : Nat) x, xs[j]? = some x → w.cell? ⟨bk, o + j, none⟩ = some (.string x)) (hbk : bk < w.heap.size) (hN : xs.length ≤ 140737488355328) (hcap : xs.length ≤ c) (hlen : (Lib.join (xs.map (·.data.toList)) sep.data.toList).length ≤ 140737488355328) :
  Calls Tryd.prog 37 #[.slice (some ⟨bk, o, none⟩) xs.length c, .string sep] w fun e w' => e = .returned (.string ⟨(Lib.join (xs.map (·.data.toList)) sep.data.toList).toArray⟩) ∧ Below w.heap.size w w' := Any.strings_Join Tryd.lays156 Tryd.Builder_Extra_156 bk o c xs sep w hcells hbk hN hcap hlen
def Tryd.lays137_ren : Go.Shelf.Ren := ⟨fun | 137 => 49 | 217 => 56 | 266 => 62 | n => n, fun | 9 => 9 | 5 => 5 | 3 => 3 | n => n, fun | n => n⟩
theorem Tryd.lays137 : Go.Proofs.Lays.n137 Tryd.prog Tryd.lays137_ren := {
 mixed := by kernel_rfl
 f137 := Tryd.func49.trans (congrArg some (by kernel_rfl))
 f217 := Tryd.func56.trans (congrArg some (by kernel_rfl))
 f266 := Tryd.func62.trans (congrArg some (by kernel_rfl))
 t3 := Tryd.underlying3
 a3 := Tryd.isAgg3
 z3 := Tryd.sizeOf3
 v3 := Tryd.zeroValue3
 t5 := Tryd.underlying5
 a5 := Tryd.isAgg5
 z5 := Tryd.sizeOf5
 v5 := Tryd.zeroValue5
 t9 := Tryd.underlying9
 a9 := Tryd.isAgg9
 z9 := Tryd.sizeOf9
 v9 := Tryd.zeroValue9 }
open Go.RowKit in
theorem Tryd.strings_IndexByte (s : ByteArray) (c : Int) (w : World) :
  Calls Tryd.prog 49 #[.string s, .int .u8 c] w fun e w' => e = .returned (.int .i64 (Lib.indexByte s.data.toList c.toNat.toUInt8)) ∧ w' = w := Any.strings_IndexByte Tryd.lays137 s c w
open Go.RowKit in
theorem Tryd.Builder_Len_f (B b : Nat) (bs : List Value) (w : World) (h : Lib.IsBuilderF 56 5 B b bs w) :
  Calls Tryd.prog 29 #[.pointer (some ⟨b, 0, none⟩)] w fun e w' => e = .returned (.int .i64 bs.length) ∧ w' = w := Any.Builder_Len_f Tryd.lays170 B b bs w h
open Go.RowKit in
theorem Tryd.Builder_String_any_k (B b : Nat) (l : List UInt8) (w : World) (h : Lib.IsBuilderF 56 5 B b (Lib.byteCells l) w) (hBw : B ≤ w.heap.size) :
  Calls Tryd.prog 30 #[.pointer (some ⟨b, 0, none⟩)] w fun e w' => e = .returned (.string ⟨l.toArray⟩) ∧ (Lib.IsBuilderF 56 5 B b (Lib.byteCells l) w' ∧ Below B w w' ∧ Lib.OthersKept 5 (some b) w w') := Any.Builder_String_any_k Tryd.lays169 Tryd.Builder_Extra_169 B b l w h hBw
def Tryd.lays171_ren : Go.Shelf.Ren := ⟨fun | 171 => 28 | 243 => 42 | 246 => 51 | 283 => 57 | 284 => 58 | 285 => 59 | 286 => 60 | 129 => 64 | 317 => 63 | 318 => 65 | 319 => 66 | 320 => 67 | 337 => 68 | 338 => 69 | n => n, fun | 3 => 3 | 9 => 9 | 2 => 2 | 4 => 4 | 171 => 84 | 0 => 0 | 53 => 85 | 37 => 41 | 5 => 5 | 173 => 88 | 212 => 93 | 51 => 94 | 20 => 20 | 213 => 95 | 46 => 97 | 232 => 100 | 233 => 101 | n => n, fun | 17 => 0 | 18 => 2 | 19 => 3 | n => n⟩
theorem Tryd.lays171 : Go.Proofs.Lays.n171 Tryd.prog Tryd.lays171_ren := {
 mixed := by kernel_rfl
 f129 := Tryd.func64.trans (congrArg some (by kernel_rfl))
 f171 := Tryd.func28.trans (congrArg some (by kernel_rfl))
 f243 := Tryd.func42.trans (congrArg some (by kernel_rfl))
 f246 := Tryd.func51.trans (congrArg some (by kernel_rfl))
 f283 := Tryd.func57.trans (congrArg some (by kernel_rfl))
 f284 := Tryd.func58.trans (congrArg some (by kernel_rfl))
 f285 := Tryd.func59.trans (congrArg some (by kernel_rfl))
 f286 := Tryd.func60.trans (congrArg some (by kernel_rfl))
 f317 := Tryd.func63.trans (congrArg some (by kernel_rfl))
 f318 := Tryd.func65.trans (congrArg some (by kernel_rfl))
 f319 := Tryd.func66.trans (congrArg some (by kernel_rfl))
 f320 := Tryd.func67.trans (congrArg some (by kernel_rfl))
 f337 := Tryd.func68.trans (congrArg some (by kernel_rfl))
 f338 := Tryd.func69.trans (congrArg some (by kernel_rfl))
 t0 := Tryd.underlying0
 a0 := Tryd.isAgg0
 z0 := Tryd.sizeOf0
 v0 := Tryd.zeroValue0
 t2 := Tryd.underlying2
 a2 := Tryd.isAgg2
 z2 := Tryd.sizeOf2
 v2 := Tryd.zeroValue2
 t3 := Tryd.underlying3
 a3 := Tryd.isAgg3
 z3 := Tryd.sizeOf3
 v3 := Tryd.zeroValue3
 t4 := Tryd.underlying4
 a4 := Tryd.isAgg4
 z4 := Tryd.sizeOf4
 v4 := Tryd.zeroValue4
 t5 := Tryd.underlying5
 a5 := Tryd.isAgg5
 z5 := Tryd.sizeOf5
 v5 := Tryd.zeroValue5
 t9 := Tryd.underlying9
 a9 := Tryd.isAgg9
 z9 := Tryd.sizeOf9
 v9 := Tryd.zeroValue9
 t20 := Tryd.underlying20
 a20 := Tryd.isAgg20
 z20 := Tryd.sizeOf20
 v20 := Tryd.zeroValue20
 t37 := Tryd.underlying41
 a37 := Tryd.isAgg41
 z37 := Tryd.sizeOf41
 v37 := Tryd.zeroValue41
 t46 := Tryd.underlying97
 a46 := Tryd.isAgg97
 z46 := Tryd.sizeOf97
 v46 := Tryd.zeroValue97
 t51 := Tryd.underlying94
 a51 := Tryd.isAgg94
 z51 := Tryd.sizeOf94
 v51 := Tryd.zeroValue94
 t53 := Tryd.underlying85
 a53 := Tryd.isAgg85
 z53 := Tryd.sizeOf85
 v53 := Tryd.zeroValue85
 t171 := Tryd.underlying84
 a171 := Tryd.isAgg84
 z171 := Tryd.sizeOf84
 v171 := Tryd.zeroValue84
 t173 := Tryd.underlying88
 a173 := Tryd.isAgg88
 z173 := Tryd.sizeOf88
 v173 := Tryd.zeroValue88
 t212 := Tryd.underlying93
 a212 := Tryd.isAgg93
 z212 := Tryd.sizeOf93
 v212 := Tryd.zeroValue93
 t213 := Tryd.underlying95
 a213 := Tryd.isAgg95
 z213 := Tryd.sizeOf95
 t232 := Tryd.underlying100
 a232 := Tryd.isAgg100
 z232 := Tryd.sizeOf100
 v232 := Tryd.zeroValue100
 t233 := Tryd.underlying101
 a233 := Tryd.isAgg101
 z233 := Tryd.sizeOf101
 v233 := Tryd.zeroValue101
 g17 := by kernel_rfl
 g18 := by kernel_rfl
 g19 := by kernel_rfl }
open Go.RowKit Go.Sort Go.Lib in
theorem Tryd.strconv_Itoa_small (i : Nat) (hi : i < 100) (w : World) :
  Calls Tryd.prog 28 #[.int .i64 i] w fun e w' => e = .returned (.string ⟨(Lib.decDigits i).toArray⟩) ∧ w' = w := Any.strconv_Itoa_small Tryd.lays171 i hi w
end Go.Proofs
end
section
namespace Go.Proofs.YtognfinkolpemaaDoor.Pr
open Go.RowKit Go.Proofs.YtognfinkolpemaaDoorW.PrintWords Go.Proofs.YtognfinkolpemaaDoorW.PrintLast Go.Proofs.YtognfinkolpemaaDoorW.PrintMore
theorem cell_lt {w : World} {a : Addr} {v : Value} (h : w.cell? a = some v) : a.spot = none ∧ a.block < w.heap.size := by
 refine ⟨?_, World.block_lt_of_cell? w a h⟩
 unfold World.cell? at h
 split at h
 ·split at h
  ·cases h
  ·rename_i hs
   cases hsp : a.spot
   ·rfl
   ·simp [hsp] at hs
 ·cases h
theorem C_addr {α : Type} {d : Kd α} {w : World} {A : Option Addr} {n : Nat} {xs : List α} (hs : 0 < d.sz) (h : d.C w A n xs) (hp : 0 < n) : ∃ b o, A = some ⟨b, o, none⟩ ∧ b < w.heap.size := by
 obtain ⟨ad, rfl, hc⟩ := h.2.2 hp
 have h1 := h.1
 obtain ⟨c, hl, _, hcc⟩ := hc 0 xs[0] (by simp)
 have h0 := hcc 0 c[0] (by simp)
 have h2 := cell_lt h0
 have e : ad.add (0 * d.sz + 0) = ad := by simp [Addr.add]
 rw [e] at h2
 obtain ⟨b, o, sp⟩ := ad
 obtain rfl : sp = none := h2.1
 exact ⟨b, o, rfl, h2.2⟩
theorem C_strings {w : World} {A : Option Addr} {xs : List ByteArray} (h : Kd.C Kd.string w A xs.length xs) (hp : 0 < xs.length) : ∃ b o, A = some ⟨b, o, none⟩ ∧ b < w.heap.size ∧ ∀ (j : Nat) x, xs[j]? = some x → w.cell? ⟨b, o + j, none⟩ = some (.string x) := by
 obtain ⟨b, o, rfl, hb⟩ := C_addr (d := Kd.string) (by decide) h hp
 refine ⟨b, o, rfl, hb, fun j x hx => ?_⟩
 have hj : j < xs.length := (List.getElem?_eq_some_iff.1 hx).1
 obtain ⟨ad, e, hc⟩ := Kd.at_string h (j : Int) (by omega) (by omega)
 injection e with e
 subst e
 have hx' : rdOf ByteArray.empty xs (j : Int) = x := by simp [rdOf, hx]
 rw [hx', Int.toNat_natCast] at hc
 have ha : (⟨b, o, none⟩ : Addr).add j = ⟨b, o + j, none⟩ := by unfold Addr.add; split <;> simp_all
 rwa [ha] at hc
theorem bytes_C (W : World) (e : TypeId) (s : ByteArray) (hs : s.size ≤ 9223372036854775807) : Kd.C (Kd.int .u8) (Lib.bytesWorld W e s) (some ⟨W.heap.size, 0, none⟩) s.size (bytesOf s) := Kd.C_of_reads (d := (0 : Int)) (h1 := fun _ => rfl) (bytes_reads W e s hs)
theorem bytes_V (W : World) (e : TypeId) (s : ByteArray) (hs : s.size ≤ 9223372036854775807) (c : Nat) (hc : s.size ≤ c) {B : Nat} (hB : B ≤ W.heap.size) : Kd.V (Kd.int .u8) e (Lib.bytesWorld W e s) B (fun k_ => B ≤ k_) (.slice (some ⟨W.heap.size, 0, none⟩) s.size c) (bytesOf s) := by
 refine ⟨some ⟨W.heap.size, 0, none⟩, c, by rw [bytesOf_length], by rw [bytesOf_length]; exact hc, ?_⟩
 rw [bytesOf_length]
 intro W' hW
 have hb := hW W.heap.size hB (by rw [Lib.bytesWorld_size]; omega)
 have h := bytes_C W e s hs
 obtain ⟨h1, h2, h3⟩ := h
 refine ⟨h1, h2, fun hp => ?_⟩
 obtain ⟨ad, ea, hcell⟩ := h3 hp
 refine ⟨ad, ea, fun j p hj => ?_⟩
 obtain ⟨cs, e1, e2, e3⟩ := hcell j p hj
 refine ⟨cs, e1, e2, fun i u hu => ?_⟩
 have := e3 i u hu
 injection ea with ea
 subst ea
 have hbk : ∀ m, ((⟨W.heap.size, 0, none⟩ : Addr).add m).block = W.heap.size := fun m => by unfold Addr.add; split <;> rfl
 unfold World.cell? at this ⊢
 rw [hbk] at this ⊢
 rw [hb]
 exact this
end Go.Proofs.YtognfinkolpemaaDoor.Pr
end
section
namespace Go.Proofs.YtognfinkolpemaaDoor.Pr
open Go.Shelf Go.RowKit Go.Proofs.YtognfinkolpemaaDoorW.PrintWords Go.Proofs.YtognfinkolpemaaDoorW.PrintLast Go.Proofs.YtognfinkolpemaaDoorW.PrintMore
theorem infoB : (Tryd.prog.info? 56).map (·.size) = some 2 := by kernel_rfl
theorem liesB : liesAt Tryd.prog Tryd.prog.depth 56 (2 / Tryd.prog.cellsOf 56) 0 56 1 = true := by kernel_rfl
theorem infoU8 : (Tryd.prog.info? 5).map (fun i => (i.zero, i.size, i.bytes)) = some (some (.int .u8 0), 1, 1) := by kernel_rfl
set_option maxHeartbeats 1000000 in
set_option maxRecDepth 100000 in
theorem build_used (b : Nat) (w : World) (h0 : w.cell? ⟨b, 0, none⟩ = some (.pointer (some ⟨b, 0, none⟩))) :
  Calls Tryd.prog 41 #[.pointer (some ⟨b, 0, none⟩)] w fun e w' => e = .returned (.tuple #[]) ∧ w' = w := by
 obtain ⟨j, hj, _⟩ := Option.map_eq_some_iff.1 infoB
 go_enter Tryd.func41, Tryd.ntmps41
 go_wp2
 rw [Lib.run_neq_ptr_same w _ Tryd.underlying54 hj]
 go_wp2
 go_end0
 exact ⟨rfl, rfl⟩
set_option maxHeartbeats 1000000 in
set_option maxRecDepth 100000 in
theorem build_fresh (b : Nat) (w : World) (h0 : w.cell? ⟨b, 0, none⟩ = some (.pointer none)) (hsh : w.shape? b = some (56, 2)) (hfz : w.frozen? ⟨b, 0, none⟩ = false) :
  Calls Tryd.prog 41 #[.pointer (some ⟨b, 0, none⟩)] w fun e w' => e = .returned (.tuple #[]) ∧ w' = w.setCell ⟨b, 0, none⟩ (.pointer (some ⟨b, 0, none⟩)) := by
 obtain ⟨j, hj, hjs⟩ := Option.map_eq_some_iff.1 infoB
 go_enter Tryd.func41, Tryd.ntmps41
 go_wp2
 rw [Lib.run_to_unsafe w ⟨b, 0, none⟩ Tryd.underlying54 Tryd.underlying79 hj (by rw [hjs]; decide) hsh (Nat.zero_lt_succ 1)]
 simp only [Result.andThen]
 rw [Oper.upon_value]
 go_wp2
 rw [run_callFunc_extern Tryd.func50 (by kernel_rfl) (by kernel_rfl) (by kernel_rfl) (e := Extern.AbiNoEscape.same) (by kernel_rfl)]
 rw [Lib.run_noEscape]
 simp only [Result.andThen]
 rw [Oper.upon_value]
 go_wp2
 rw [Lib.run_from_unsafe w ⟨b, 0, none⟩ Tryd.underlying79 Tryd.underlying54 hj hsh liesB]
 simp only [Result.andThen]
 rw [Oper.upon_value]
 go_wp2
 go_end0
 exact ⟨rfl, rfl⟩
theorem build_check (B b : Nat) (bs : List Value) (w : World) (h : Lib.IsBuilderF 56 5 B b bs w) :
  Calls Tryd.prog 41 #[.pointer (some ⟨b, 0, none⟩)] w fun e w' => e = .returned (.tuple #[]) ∧ (Lib.BuilderAtF 56 5 B b (.pointer (some ⟨b, 0, none⟩)) bs w' ∧ Below B w w' ∧ Lib.OthersKept 5 (some b) w w') := by
 rcases h with h | h
 ·refine (build_fresh b w h.cell0 h.shape h.frozen0).mono ?_
  rintro e w' ⟨rfl, rfl⟩
  exact ⟨rfl, h.used _, (Below.refl B w).setCell (p := ⟨b, 0, none⟩) h.1 _, (Lib.OthersKept.refl _ _ w).setCell ⟨b, 0, none⟩ rfl _⟩
 ·refine (build_used b w h.cell0).mono ?_
  rintro e w' ⟨rfl, rfl⟩
  exact ⟨rfl, h, Below.refl B _, Lib.OthersKept.refl _ _ _⟩
set_option maxHeartbeats 2000000 in
set_option maxRecDepth 100000 in
theorem build_write (B b : Nat) (bs : List Value) (s : ByteArray) (w : World) (h : Lib.IsBuilderF 56 5 B b bs w) (hlen : bs.length + s.size ≤ 140737488355328) (hBw : B ≤ w.heap.size) :
  Calls Tryd.prog 27 #[.pointer (some ⟨b, 0, none⟩), .string s] w fun e w' => e = .returned (.tuple #[.int .i64 s.size, .nilIface]) ∧ (Lib.BuilderAtF 56 5 B b (.pointer (some ⟨b, 0, none⟩)) (bs ++ Lib.strCells s) w' ∧ Below B w w' ∧ Lib.OthersKept 5 (some b) w w') := by
 obtain ⟨i0, hi, hz0, hz1, hz2⟩ := info_parts infoU8
 have e240 : ∀ args w, (callFunc 41 args).run Tryd.prog w = .ok (.enter 41 args) w := enters_of Tryd.func41 (by kernel_rfl) rfl
 go_enter Tryd.func27, Tryd.ntmps27
 go_wp2_with (go_at_fn 41; refine (build_check B b bs _ h).mono ?_)
 rintro e w1 ⟨rfl, h1, hb1, hk1⟩
 obtain ⟨hB, v, hbk, hown, hne⟩ := h1
 have c0 : w1.cell? ⟨b, 0, none⟩ = some (.pointer (some ⟨b, 0, none⟩)) := by rw [Lib.cell_of_heap hbk]; rfl
 have c1 : w1.cell? ⟨b, 1, none⟩ = some v := by rw [Lib.cell_of_heap hbk]; rfl
 go_wp2_with (at_builtin; refine Lib.wpList_append_own_stringF _ rfl _ _ 41 9 rfl B 5 i0 Tryd.underlying41 Tryd.underlying9 hi hz0 hz1 hz2 _ _ _ rfl hown s rfl ?c3 ?c4 ?c5 ?_)
 case c3 => unfold maxLen; omega
 case c4 => omega
 case c5 => have := hb1.size; omega
 intro v' w2 hown' hgrow _
 have hlt : b < w1.heap.size := by
  rcases Nat.lt_or_ge b w1.heap.size with h' | h'
  ·exact h'
  ·simp [Array.getElem?_eq_none h'] at hbk
 have hb2 : w2.heap[b]? = some (.cells #[.pointer (some ⟨b, 0, none⟩), v] 56 (0, 0)) := by
  rw [hgrow.block b hlt (fun e => hne e.symm)]
  exact hbk
 have d0 : w2.cell? ⟨b, 0, none⟩ = some (.pointer (some ⟨b, 0, none⟩)) := by rw [Lib.cell_of_heap hb2]; rfl
 have d1 : w2.cell? ⟨b, 1, none⟩ = some v := by rw [Lib.cell_of_heap hb2]; rfl
 have f1 : w2.frozen? ⟨b, 1, none⟩ = false := Lib.frozen_of_heap hb2 1
 obtain ⟨ao, n', cap, rfl⟩ : ∃ ao n' cap, v' = .slice ao n' cap := by
  rcases hown'.2 with ⟨hv, _⟩ | ⟨g, cap, cur, fz, hv, _⟩
  ·exact ⟨_, _, _, hv⟩
  ·exact ⟨_, _, _, hv⟩
 go_wp2
 go_ret2
 refine ⟨rfl, ?_, ?_, (hk1.grown hgrow (Lib.ownsRowF_kind hown)).setCell ⟨b, 1, none⟩ rfl _⟩
 ·exact Lib.BuilderAtF.put (T := 56) (e := 5) hB hb2 (bs' := bs ++ Lib.strCells s) (by simpa [Lib.strCells_length] using hown') (by decide)
 ·exact (hb1.grown hgrow (by have := hb1.size; omega) (fun k hk => (hown.lt k hk).1)).setCell (p := ⟨b, 1, none⟩) hB _
end Go.Proofs.YtognfinkolpemaaDoor.Pr
end
section
namespace Go.Proofs.YtognfinkolpemaaDoor.Pr
open Go.RowKit Go.Proofs.YtognfinkolpemaaDoorW.PrintWords Go.Proofs.YtognfinkolpemaaDoorW.PrintLast Go.Proofs.YtognfinkolpemaaDoorW.PrintMore
section
variable {P : Program} {ops : Array Oper} {rest : List Oper} {o : Oper} {a : Act} {Q : Exit → Act → World → Prop}
end
end Go.Proofs.YtognfinkolpemaaDoor.Pr
end
section
namespace Go.Proofs.YtognfinkolpemaaDoor.Pr
open Go.RowKit Go.Proofs.YtognfinkolpemaaDoorW.PrintWords Go.Proofs.YtognfinkolpemaaDoorW.PrintLast Go.Proofs.YtognfinkolpemaaDoorW.PrintMore
def feedy (s : ByteArray) : Bool := decide (0 ≤ Go.Lib.indexByte s.data.toList 10)
def idxFrom (p : ByteArray → Bool) : List ByteArray → Nat → Int
 | [], _ => -1
 | s :: l, i => if p s = true then (i : Int) else idxFrom p l (i + 1)
theorem idxFrom_hit (p : ByteArray → Bool) : ∀ (l : List ByteArray) (i kk : Nat) (hk : kk < l.length), (∀ j (hj : j < kk), p (l[j]'(by omega)) = false) → p l[kk] = true → idxFrom p l i = ((i + kk : Nat) : Int)
 | s :: l, i, 0, _, _, h => by simp only [List.getElem_cons_zero] at h; simp [idxFrom, h]
 | s :: l, i, kk + 1, hk, hn, h => by
  have h0 := hn 0 (by omega)
  simp only [List.getElem_cons_zero] at h0
  simp only [idxFrom, h0]
  have := idxFrom_hit p l (i + 1) kk (by simpa using hk) (fun j hj => by simpa using hn (j + 1) (by omega)) (by simpa using h)
  rw [if_neg (by simp), this]
  omega
theorem idxFrom_miss (p : ByteArray → Bool) : ∀ (l : List ByteArray) (i : Nat), (∀ j (hj : j < l.length), p (l[j]'hj) = false) → idxFrom p l i = -1
 | [], i, _ => rfl
 | s :: l, i, h => by
  have h0 := h 0 (by simp)
  simp only [List.getElem_cons_zero] at h0
  simp only [idxFrom, h0]
  rw [if_neg (by simp)]
  exact idxFrom_miss p l (i + 1) (fun j hj => h (j + 1) (by simpa using hj))
theorem idxFrom_nonneg (p : ByteArray → Bool) : ∀ (l : List ByteArray) (i : Nat), 0 ≤ idxFrom p l i ↔ l.any p = true
 | [], i => by simp [idxFrom]
 | s :: l, i => by
  have ih := idxFrom_nonneg p l (i + 1)
  by_cases h : p s = true
  ·simp [idxFrom, h]
  ·simp only [idxFrom, List.any_cons, Bool.eq_false_iff.2 h, Bool.false_or]
   exact ih
theorem idxFrom_any (p : ByteArray → Bool) (l : List ByteArray) (i : Nat) : decide (0 ≤ idxFrom p l i) = l.any p := by
 rw [Bool.eq_iff_iff, decide_eq_true_iff]
 exact idxFrom_nonneg p l i
theorem odd1_any (s : ByteArray) (w : World) : Calls Tryd.prog 53 #[.string s] w fun e w' => e = .returned (.bool (feedy s)) ∧ w' = w := by
 go_enter Tryd.func53, Tryd.ntmps53
 go_wp2_with (go_at_call 49; refine (Tryd.strings_IndexByte _ _ _).mono ?_; rintro e w' ⟨rfl, rfl⟩)
 go_ret
 exact ⟨rfl, rfl⟩
set_option maxHeartbeats 2000000 in
theorem idxf_any (A0 : Option Addr) (c0 : Nat) (l0 : List ByteArray) (w : World) (hr0 : Kd.C Kd.string w A0 l0.length l0) :
  Calls Tryd.prog 55 #[.slice A0 l0.length c0, .func (.func 53) #[] #[]] w fun e w' => e = .returned (.int .i64 (idxFrom feedy l0 0)) ∧ Drawn0 w w' := by
 have hbig : l0.length ≤ 9223372036854775807 := hr0.2.1
 have eg : ∀ args w, (callFunc 53 args).run Tryd.prog w = .ok (.enter 53 args) w := enters_of Tryd.func53 (by kernel_rfl) rfl
 have HR0 := Aside0.mk hr0
 clear hr0
 go_enter Tryd.func55, Tryd.ntmps55
 go_wp2
 go_loopg [5, 8] l0.length (fun gg _ s8 wr => ∃ kk q : Nat, kk ≤ l0.length ∧ l0.length - kk ≤ gg ∧ s8 = .int .i64 kk ∧ wr = w.drewN q ∧ Aside0 (∀ j (hj : j < l0.length), j < kk → feedy (l0[j]'hj) = false))
 case atStart => exact ⟨0, 0, Nat.zero_le _, by omega, rfl, rfl, ⟨fun j _ hj => absurd hj (Nat.not_lt_zero _)⟩⟩
 case round =>
  obtain ⟨kk, q, hkk, hg, rfl, rfl, HN⟩ := hrel
  by_cases hlt : kk < l0.length
  ·have hltz : (kk : Int) < (l0.length : Int) := by omega
   obtain ⟨ad, rfl, hcell⟩ := Kd.at_string HR0.out (kk : Int) (by omega) (by omega)
   simp only [Int.toNat_natCast] at hcell
   have hy0 : rdOf ByteArray.empty l0 (kk : Int) = l0[kk] := by simp [rdOf, hlt]
   rw [hy0] at hcell
   obtain ⟨y, hy⟩ : ∃ y, y = l0[kk] := ⟨_, rfl⟩
   rw [← hy] at hcell
   have HY := Aside0.mk hy
   clear hy hy0
   have hcall := odd1_any y
   cases hq : feedy y with
   | true =>
    rw [hq] at hcall
    go_wp2_with (go_at_fn 53; refine (hcall _).mono ?_; rintro e w' ⟨rfl, rfl⟩)
    go_ret
    refine ⟨?_, ⟨⟨_, rfl⟩⟩⟩
    rw [idxFrom_hit feedy l0 0 kk hlt (fun j hj => HN.out j (by omega) hj) (by rw [← HY.out]; exact hq)]
    simp
   | false =>
    rw [hq] at hcall
    go_wp2_with (go_at_fn 53; refine (hcall _).mono ?_; rintro e w' ⟨rfl, rfl⟩)
    go_roundg (l0.length - (kk + 1))
    case measure => omega
    case rel =>
     refine ⟨kk + 1, _, by omega, by omega, by go_num, rfl, ⟨fun j hjl hj => ?_⟩⟩
     by_cases e : j = kk
     ·subst e
      rw [← HY.out]; exact hq
     ·exact HN.out j hjl (by omega)
  ·have hltz : ¬ (kk : Int) < (l0.length : Int) := by omega
   have hk : kk = l0.length := by omega
   have HK := Aside0.mk hk
   clear hk
   go_wp2
   go_ret
   refine ⟨?_, ⟨⟨q, rfl⟩⟩⟩
   rw [idxFrom_miss feedy l0 0 (fun j hj => HN.out j hj (by rw [HK.out]; exact hj))]
   rfl
theorem contains_any (A0 : Option Addr) (c0 : Nat) (l0 : List ByteArray) (w : World) (hr0 : Kd.C Kd.string w A0 l0.length l0) :
  Calls Tryd.prog 47 #[.slice A0 l0.length c0, .func (.func 53) #[] #[]] w fun e w' => e = .returned (.bool (l0.any feedy)) ∧ Drawn0 w w' := by
 rw [← idxFrom_any feedy l0 0]
 go_enter Tryd.func47, Tryd.ntmps47
 go_wp2_with (go_at_call 55; refine (idxf_any A0 c0 l0 _ hr0).mono ?_; rintro e w' ⟨rfl, ⟨q, rfl⟩⟩)
 go_ret
 exact ⟨rfl, ⟨⟨q, rfl⟩⟩⟩
def lines_odd.f (l0 : List ByteArray) : Option (Bool) := some (l0.any feedy)
theorem lines_odd.calls (A0 : Option Addr) (c0 : Nat) (l0 : List ByteArray) (r : Bool) (w : World) (hr0 : Kd.C Kd.string w A0 l0.length l0) (hc0 : l0.length ≤ c0) (h : lines_odd.f l0 = some r) :
  Calls Tryd.prog 45 #[.slice A0 l0.length c0] w fun e w' => e = .returned (.bool r) ∧ Drawn0 w w' := by
 obtain rfl : l0.any feedy = r := by simpa [lines_odd.f] using h
 clear h
 go_enter Tryd.func45, Tryd.ntmps45
 go_wp2_with (go_at_call 47; refine (contains_any A0 c0 l0 _ hr0).mono ?_; rintro e w' ⟨rfl, ⟨q, rfl⟩⟩)
 go_ret
 exact ⟨rfl, ⟨⟨q, rfl⟩⟩⟩
end Go.Proofs.YtognfinkolpemaaDoor.Pr
end
section
namespace Go.Proofs.YtognfinkolpemaaDoor.Pr
open Go.RowKit Go.Proofs.YtognfinkolpemaaDoorW.PrintWords Go.Proofs.YtognfinkolpemaaDoorW.PrintLast Go.Proofs.YtognfinkolpemaaDoorW.PrintMore
def widey (s : ByteArray) : Bool := decide (2000 < s.size) || feedy s
theorem plain1_any (s : ByteArray) (w : World) : Calls Tryd.prog 48 #[.string s] w fun e w' => e = .returned (.bool (widey s)) ∧ w' = w := by
 by_cases c : (s.size : Int) > 2000
 ·have c1 : decide ((s.size : Int) > 2000) = true := decide_eq_true c
  have c2 : decide ((2000 : Int) < (s.size : Int)) = true := decide_eq_true c
  have e1 : widey s = true := by unfold widey; rw [decide_eq_true (by omega)]; rfl
  rw [e1]
  clear e1 c
  go_enter Tryd.func48, Tryd.ntmps48
  go_wp2
  go_ret
  exact ⟨rfl, rfl⟩
 ·have c1 : decide ((s.size : Int) > 2000) = false := decide_eq_false c
  have c2 : decide ((2000 : Int) < (s.size : Int)) = false := decide_eq_false c
  have e1 : widey s = feedy s := by unfold widey; rw [decide_eq_false (by omega)]; rfl
  rw [e1]
  clear e1 c
  go_enter Tryd.func48, Tryd.ntmps48
  go_wp2_with (go_at_call 49; refine (Tryd.strings_IndexByte _ _ _).mono ?_; rintro e w' ⟨rfl, rfl⟩)
  go_ret
  exact ⟨rfl, rfl⟩
set_option maxHeartbeats 2000000 in
theorem pidxf_any (A0 : Option Addr) (c0 : Nat) (l0 : List ByteArray) (w : World) (hr0 : Kd.C Kd.string w A0 l0.length l0) :
  Calls Tryd.prog 55 #[.slice A0 l0.length c0, .func (.func 48) #[] #[]] w fun e w' => e = .returned (.int .i64 (idxFrom widey l0 0)) ∧ Drawn0 w w' := by
 have hbig : l0.length ≤ 9223372036854775807 := hr0.2.1
 have eg : ∀ args w, (callFunc 48 args).run Tryd.prog w = .ok (.enter 48 args) w := enters_of Tryd.func48 (by kernel_rfl) rfl
 have HR0 := Aside0.mk hr0
 clear hr0
 go_enter Tryd.func55, Tryd.ntmps55
 go_wp2
 go_loopg [5, 8] l0.length (fun gg _ s8 wr => ∃ kk q : Nat, kk ≤ l0.length ∧ l0.length - kk ≤ gg ∧ s8 = .int .i64 kk ∧ wr = w.drewN q ∧ Aside0 (∀ j (hj : j < l0.length), j < kk → widey (l0[j]'hj) = false))
 case atStart => exact ⟨0, 0, Nat.zero_le _, by omega, rfl, rfl, ⟨fun j _ hj => absurd hj (Nat.not_lt_zero _)⟩⟩
 case round =>
  obtain ⟨kk, q, hkk, hg, rfl, rfl, HN⟩ := hrel
  by_cases hlt : kk < l0.length
  ·have hltz : (kk : Int) < (l0.length : Int) := by omega
   obtain ⟨ad, rfl, hcell⟩ := Kd.at_string HR0.out (kk : Int) (by omega) (by omega)
   simp only [Int.toNat_natCast] at hcell
   have hy0 : rdOf ByteArray.empty l0 (kk : Int) = l0[kk] := by simp [rdOf, hlt]
   rw [hy0] at hcell
   obtain ⟨y, hy⟩ : ∃ y, y = l0[kk] := ⟨_, rfl⟩
   rw [← hy] at hcell
   have HY := Aside0.mk hy
   clear hy hy0
   have hcall := plain1_any y
   cases hq : widey y with
   | true =>
    rw [hq] at hcall
    go_wp2_with (go_at_fn 48; refine (hcall _).mono ?_; rintro e w' ⟨rfl, rfl⟩)
    go_ret
    refine ⟨?_, ⟨⟨_, rfl⟩⟩⟩
    rw [idxFrom_hit widey l0 0 kk hlt (fun j hj => HN.out j (by omega) hj) (by rw [← HY.out]; exact hq)]
    simp
   | false =>
    rw [hq] at hcall
    go_wp2_with (go_at_fn 48; refine (hcall _).mono ?_; rintro e w' ⟨rfl, rfl⟩)
    go_roundg (l0.length - (kk + 1))
    case measure => omega
    case rel =>
     refine ⟨kk + 1, _, by omega, by omega, by go_num, rfl, ⟨fun j hjl hj => ?_⟩⟩
     by_cases e : j = kk
     ·subst e
      rw [← HY.out]; exact hq
     ·exact HN.out j hjl (by omega)
  ·have hltz : ¬ (kk : Int) < (l0.length : Int) := by omega
   have hk : kk = l0.length := by omega
   have HK := Aside0.mk hk
   clear hk
   go_wp2
   go_ret
   refine ⟨?_, ⟨⟨q, rfl⟩⟩⟩
   rw [idxFrom_miss widey l0 0 (fun j hj => HN.out j hj (by rw [HK.out]; exact hj))]
   rfl
theorem pcontains_any (A0 : Option Addr) (c0 : Nat) (l0 : List ByteArray) (w : World) (hr0 : Kd.C Kd.string w A0 l0.length l0) :
  Calls Tryd.prog 47 #[.slice A0 l0.length c0, .func (.func 48) #[] #[]] w fun e w' => e = .returned (.bool (l0.any widey)) ∧ Drawn0 w w' := by
 rw [← idxFrom_any widey l0 0]
 go_enter Tryd.func47, Tryd.ntmps47
 go_wp2_with (go_at_call 55; refine (pidxf_any A0 c0 l0 _ hr0).mono ?_; rintro e w' ⟨rfl, ⟨q, rfl⟩⟩)
 go_ret
 exact ⟨rfl, ⟨⟨q, rfl⟩⟩⟩
def hunk_plain.f (l0 : List ByteArray) : Option (Bool) := some (decide (l0.length ≤ 60) && !l0.any widey)
theorem hunk_plain.calls (A0 : Option Addr) (c0 : Nat) (l0 : List ByteArray) (r : Bool) (w : World) (hr0 : Kd.C Kd.string w A0 l0.length l0) (hc0 : l0.length ≤ c0) (h : hunk_plain.f l0 = some r) :
  Calls Tryd.prog 40 #[.slice A0 l0.length c0] w fun e w' => e = .returned (.bool r) ∧ Drawn0 w w' := by
 obtain rfl : (decide (l0.length ≤ 60) && !l0.any widey) = r := by simpa [hunk_plain.f] using h
 clear h
 by_cases c : (l0.length : Int) ≤ 60
 ·have c1 : decide ((l0.length : Int) ≤ 60) = true := decide_eq_true c
  rw [decide_eq_true (show l0.length ≤ 60 by omega), Bool.true_and]
  clear c
  go_enter Tryd.func40, Tryd.ntmps40
  go_wp2_with (go_at_call 47; refine (pcontains_any A0 c0 l0 _ hr0).mono ?_; rintro e w' ⟨rfl, ⟨q, rfl⟩⟩)
  go_ret
  exact ⟨rfl, ⟨⟨q, rfl⟩⟩⟩
 ·have c1 : decide ((l0.length : Int) ≤ 60) = false := decide_eq_false c
  rw [decide_eq_false (show ¬ l0.length ≤ 60 by omega), Bool.false_and]
  clear c
  go_enter Tryd.func40, Tryd.ntmps40
  go_wp2
  go_ret
  first | exact ⟨rfl, ⟨⟨0, rfl⟩⟩⟩ | exact ⟨rfl, ⟨⟨_, rfl⟩⟩⟩ | exact ⟨rfl, ⟨⟨0, by simp [World.drewN]⟩⟩⟩ | exact ⟨rfl, ⟨0, rfl⟩⟩
end Go.Proofs.YtognfinkolpemaaDoor.Pr
end
