/- Part 4 of the proof of HunkDiffs: texts put together. -/
import Derived.Test.YtmgbbmjfjnhmiaaJHunkDiffs1
import Derived.Test.YtmgbbmjfjnhmiaaJHunkDiffs3
import Derived.Test.YtmgbbmjfjnhmiaaProg
import Derived.Below
import Derived.Deep.Draws
import Derived.Deep.AppendLies
import Derived.Maps.AppendAt
import Derived.OwnWalk
import Derived.Laws.BytesArg
import Derived.Laws.MakeOwn
import Derived.Laws.OwnMore
import Derived.Deep.OwnRows
import Derived.Tactics
import Derived.Lib.ConvBytes
import Derived.Laws.Slices
import Derived.WalkKit
import Derived.KernelRfl
import Derived.RowKit3
import Derived.Deep.LoopGhost
import Derived.Deep.QuietTactic
import Derived.BigQuiet
import Derived.WideLaws
import Derived.Deep.DeepCutAuto
import Derived.Deep.CutBlock
import Derived.Deep.RegionHeld3
import Derived.Laws.Rows
import Derived.Lib.AppendStr
import Derived.ArgAppend
import Derived.Laws.IdiomCopy
import Derived.OrdersHeld
import Derived.Laws.BitsLemmas
import Derived.RowKit
import Derived.WideShapes
import Derived.Shelf.Strings.Builder1
import Derived.Shelf.Strings.Builder2
import Derived.Shelf.Strings.OnBuilder
import Derived.Shelf.Small.Strs
import Derived.Shelf.Strings.Search1
import Derived.Shelf.Slices.Equal
import Derived.Ground.Names2Prog
import Derived.Shelf.Slices.Clone
import Derived.Shelf.Slices.Empties2
set_option linter.unusedVariables false
set_option linter.unusedSimpArgs false
section
namespace Go.Proofs.Ytmgbbmjfjnhmiaa.Pr
open Go.RowKit Go.Proofs.YtmgbbmjfjnhmiaaW.PrintWords Go.Proofs.YtmgbbmjfjnhmiaaW.PrintLast Go.Proofs.YtmgbbmjfjnhmiaaW.PrintMore
attribute [local go_sem] max2_int min2_int max_two min_two max_three min_three max_four min_four   
def errW : Option Int → Value
 | none => .nilIface
 | some c => .iface 0 (.int .i64 c)
theorem errW_none : errW none = .nilIface := rfl
theorem errW_some (c : Int) : errW (some c) = .iface 0 (.int .i64 c) := rfl
theorem info3 : (Try.prog.info? 3).map (fun i => (i.zero, i.size, i.bytes)) = some (some (.int .i64 0), 1, 8) := by kernel_rfl
theorem info5 : (Try.prog.info? 5).map (fun i => (i.zero, i.size, i.bytes)) = some (some (.int .u8 0), 1, 1) := by kernel_rfl
theorem info9 : (Try.prog.info? 9).map (fun i => (i.zero, i.size, i.bytes)) = some (some (.string ⟨#[]⟩), 1, 16) := by kernel_rfl
theorem info40 : (Try.prog.info? 40).map (fun i => (i.zero, i.size, i.bytes)) = some (some (.agg #[(.int .i64 0), (.slice none 0 0), (.slice none 0 0)]), 3, 56) := by kernel_rfl
theorem info45 : (Try.prog.info? 45).map (fun i => (i.zero, i.size, i.bytes)) = some (some (.agg #[(.int .i64 0), (.int .i64 0)]), 2, 16) := by kernel_rfl
theorem info59 : (Try.prog.info? 59).map (fun i => (i.zero, i.size, i.bytes)) = some (some (.slice none 0 0), 1, 24) := by kernel_rfl
structure S40 where
 f0 : Int
 f1 : (List ByteArray)
 f2 : (List ByteArray)
def z40 : S40 := ⟨(0 : Int), ([] : List ByteArray), ([] : List ByteArray)⟩
def k40 : Kd S40 := Kd.iso (Kd.pair (Kd.int .i64) (Kd.pair (Kd.slice 9 Kd.string) (Kd.slice 9 Kd.string))) (fun x : S40 => (x.f0, x.f1, x.f2))
theorem k40_open {w : World} {x : S40} {cs : List Value} (h : k40.K w x cs) : ∃ A1 c1 A2 c2, cs = [.int .i64 x.f0, .slice A1 x.f1.length c1, .slice A2 x.f2.length c2] ∧ x.f1.length ≤ c1 ∧ Kd.string.C w A1 x.f1.length x.f1 ∧ x.f2.length ≤ c2 ∧ Kd.string.C w A2 x.f2.length x.f2 := by
 obtain ⟨_, _, rfl, rfl, ⟨_, _, rfl, ⟨A1, c1, rfl, l1, g1⟩, ⟨A2, c2, rfl, l2, g2⟩⟩⟩ := h
 exact ⟨A1, c1, A2, c2, rfl, l1, g1, l2, g2⟩
theorem k40_mkM (w : World) (base : Nat) (ok : Nat → Prop) (x : S40) {v1 : Value} (g1 : Kd.string.R 9 w base ok v1 x.f1) {v2 : Value} (g2 : Kd.string.R 9 w base ok v2 x.f2) : k40.M w base ok x [.int .i64 x.f0, v1, v2] := ⟨[.int .i64 x.f0], [v1, v2], rfl, rfl, ⟨[v1], [v2], rfl, ⟨v1, rfl, g1⟩, ⟨v2, rfl, g2⟩⟩⟩
def rd_T40 (xs : List S40) (i : Int) : S40 := xs.getD i.toNat z40
theorem at_T40 {w : World} {A : Option Addr} {n : Nat} {xs : List S40} (h : Kd.C k40 w A n xs) (i : Int) (h0 : 0 ≤ i) (h1 : i < n) : ∃ ad A1 c1 A2 c2, A = some ad ∧ w.cell? (ad.add (i.toNat * 3)) = some (.int .i64 (rd_T40 xs i).f0) ∧ w.cell? ⟨(ad.add (i.toNat * 3)).block, (ad.add (i.toNat * 3)).off + 1, none⟩ = some (.slice A1 (rd_T40 xs i).f1.length c1) ∧ w.cell? ⟨(ad.add (i.toNat * 3)).block, (ad.add (i.toNat * 3)).off + 2, none⟩ = some (.slice A2 (rd_T40 xs i).f2.length c2) ∧ (rd_T40 xs i).f1.length ≤ c1 ∧ Kd.string.C w A1 (rd_T40 xs i).f1.length (rd_T40 xs i).f1 ∧ (rd_T40 xs i).f2.length ≤ c2 ∧ Kd.string.C w A2 (rd_T40 xs i).f2.length (rd_T40 xs i).f2 := by
 obtain ⟨ad, c, e, _, hK, hc0⟩ := Kd.C_get h z40 i h0 h1
 have hc : ∀ j u, c[j]? = some u → w.cell? (ad.add (i.toNat * 3 + j)) = some u := hc0
 obtain ⟨A1, c1, A2, c2, rfl, l1, g1, l2, g2⟩ := k40_open hK
 exact ⟨ad, A1, c1, A2, c2, e, hc 0 _ rfl, by rw [← add_field _ _ 1 (by omega)]; exact hc 1 _ rfl, by rw [← add_field _ _ 2 (by omega)]; exact hc 2 _ rfl, l1, g1, l2, g2⟩
def rd_Li64 (xs : List (List Int)) (i : Int) : (List Int) := xs.getD i.toNat ([] : List Int)
theorem at_Li64 {w : World} {A : Option Addr} {n : Nat} {xs : List (List Int)} (h : Kd.C (Kd.slice 3 (Kd.int .i64)) w A n xs) (i : Int) (h0 : 0 ≤ i) (h1 : i < n) : ∃ ad A0 c0, A = some ad ∧ w.cell? (ad.add i.toNat) = some (.slice A0 (rd_Li64 xs i).length c0) ∧ (rd_Li64 xs i).length ≤ c0 ∧ (Kd.int .i64).C w A0 (rd_Li64 xs i).length (rd_Li64 xs i) := by
 obtain ⟨ad, c, e, _, hK, hc0⟩ := Kd.C_get h ([] : List Int) i h0 h1
 have hc : ∀ j u, c[j]? = some u → w.cell? (ad.add (i.toNat * 1 + j)) = some u := hc0
 obtain ⟨A0, c0, rfl, l0, g0⟩ := hK
 exact ⟨ad, A0, c0, e, by have hq := hc 0 _ rfl; rwa [Nat.mul_one, Nat.add_zero] at hq, l0, g0⟩
structure S45 where
 f0 : Int
 f1 : Int
def z45 : S45 := ⟨(0 : Int), (0 : Int)⟩
def k45 : Kd S45 := Kd.iso (Kd.pair (Kd.int .i64) (Kd.int .i64)) (fun x : S45 => (x.f0, x.f1))
theorem k45_open {w : World} {x : S45} {cs : List Value} (h : k45.K w x cs) : cs = [.int .i64 x.f0, .int .i64 x.f1] := by
 obtain ⟨_, _, rfl, rfl, rfl⟩ := h
 exact rfl
theorem k45_mkM (w : World) (base : Nat) (ok : Nat → Prop) (x : S45)  : k45.M w base ok x [.int .i64 x.f0, .int .i64 x.f1] := ⟨[.int .i64 x.f0], [.int .i64 x.f1], rfl, rfl, rfl⟩
def rd_T45 (xs : List S45) (i : Int) : S45 := xs.getD i.toNat z45
theorem at_T45 {w : World} {A : Option Addr} {n : Nat} {xs : List S45} (h : Kd.C k45 w A n xs) (i : Int) (h0 : 0 ≤ i) (h1 : i < n) : ∃ ad , A = some ad ∧ w.cell? (ad.add (i.toNat * 2)) = some (.int .i64 (rd_T45 xs i).f0) ∧ w.cell? ⟨(ad.add (i.toNat * 2)).block, (ad.add (i.toNat * 2)).off + 1, none⟩ = some (.int .i64 (rd_T45 xs i).f1) := by
 obtain ⟨ad, c, e, _, hK, hc0⟩ := Kd.C_get h z45 i h0 h1
 have hc : ∀ j u, c[j]? = some u → w.cell? (ad.add (i.toNat * 2 + j)) = some u := hc0
 obtain rfl := k45_open hK
 exact ⟨ad, e, hc 0 _ rfl, by rw [← add_field _ _ 1 (by omega)]; exact hc 1 _ rfl⟩
end Go.Proofs.Ytmgbbmjfjnhmiaa.Pr
end
section
namespace Go.Proofs.Ytmgbbmjfjnhmiaa.Pr
open Go.RowKit Go.Proofs.YtmgbbmjfjnhmiaaW.PrintWords Go.Proofs.YtmgbbmjfjnhmiaaW.PrintLast Go.Proofs.YtmgbbmjfjnhmiaaW.PrintMore
attribute [local go_sem] i64_w i32_w max2_int min2_int max_two min_two
section
variable {P : Program} {ops : Array Oper} {Q : Exit → Act → World → Prop} {md : Region.Mode} {S : World → Prop} {ds : List Nat}
theorem pu (i n : Nat) {oi : Oper} {v : Value} {fuel : Nat} {l : Array Bool} {a : Act} {w : World} (l' : Array Bool) (hi : ops[i]? = some oi) (hN : oi.dst = some n) (hc : anyB md ops l l' i = true) {a' : Act}
  (h : wpAnyLast P md ops Q S ds fuel l' a' w) (hw : Region.wanted oi (yielded ops a.tmps) = true := by rfl) (hv : ∀ w, (execOp a.eval oi).run P w = .ok (.value v) w := by (intro w'; go_simp; with_reducible rfl))
  (ha : a.put (some n) v = a' := by (go_simp; rfl)) (hQ : ∀ c a w, Q (.panic c) (a.put oi.dst v) w → Q (.panic c) a w := by exact fun _ _ _ h => h) : wpAnyLast P md ops Q S ds (fuel + 1) l a w :=
 pure_ l' hi hN hc hQ (Or.inl ⟨hw, hv⟩) ha h
theorem po (i n : Nat) {oi : Oper} {fuel : Nat} {l : Array Bool} {a : Act} {w : World} (l' : Array Bool) (hi : ops[i]? = some oi) (hN : oi.dst = some n) (hc : anyB md ops l l' i = true) {a' : Act}
  (h : wpAnyLast P md ops Q S ds fuel l' a' w) (hw : Region.wanted oi (yielded ops a.tmps) = false := by rfl)
  (ha : a.put (some n) undef = a' := by (go_simp; rfl)) (hQ : ∀ c a w, Q (.panic c) (a.put oi.dst undef) w → Q (.panic c) a w := by exact fun _ _ _ h => h) : wpAnyLast P md ops Q S ds (fuel + 1) l a w :=
 pure_ l' hi hN hc hQ (Or.inr ⟨hw, rfl⟩) ha h
end
end Go.Proofs.Ytmgbbmjfjnhmiaa.Pr
end
section
namespace Go.Proofs.Ytmgbbmjfjnhmiaa.Pr
open Go.RowKit Go.Proofs.YtmgbbmjfjnhmiaaW.PrintWords Go.Proofs.YtmgbbmjfjnhmiaaW.PrintLast Go.Proofs.YtmgbbmjfjnhmiaaW.PrintMore
theorem Ev.pos {α : Type} {c : Prop} [Decidable c] {A B : Nat → Option α} {r : α} (h : c) (k : Ev A r) : Ev (fun n => if c then A n else B n) r := Ev.congr (fun _ => if_pos h) k
theorem Ev.neg {α : Type} {c : Prop} [Decidable c] {A B : Nat → Option α} {r : α} (h : ¬ c) (k : Ev B r) : Ev (fun n => if c then A n else B n) r := Ev.congr (fun _ => if_neg h) k
theorem Ev.bd {α β : Type} {g : Nat → Option α} {f : Nat → α → Option β} {a : α} {r : β} (h : Ev g a) (k : Ev (fun n => f n a) r) : Ev (fun n => (g n).bind fun t => f n t) r := Ev.bind h k
theorem Ev.bs {α β : Type} {f : Nat → α → Option β} {a : α} {r : β} (k : Ev (fun n => f n a) r) : Ev (fun n => (some a).bind fun t => f n t) r := k
theorem Ev.bc {α β : Type} {g : Option α} {f : Nat → α → Option β} {a : α} {r : β} (h : g = some a) (k : Ev (fun n => f n a) r) : Ev (fun n => g.bind fun t => f n t) r := by
 subst h
 exact k
theorem Ev.rt {α : Type} {a r : α} (h : a = r) : Ev (fun _ => some a) r := by
 subst h
 exact Ev.now a
theorem Ev.eq {α : Type} {g : Nat → Option α} {a r : α} (h : a = r) (k : Ev g a) : Ev g r := h ▸ k
theorem Ev.ke {α : Type} {f : Option α} {r : α} (h : f = some r) : Ev (fun _ => f) r := ⟨0, fun _ _ => h⟩
theorem Ev.uniq {α : Type} {g : Nat → Option α} {a b : α} (h : Ev g a) (k : Ev g b) : a = b := by
 obtain ⟨K, h⟩ := h
 obtain ⟨K', k⟩ := k
 have h1 := h (max K K') (by omega)
 have h2 := k (max K K') (by omega)
 rw [h1] at h2
 exact Option.some.inj h2
theorem w64 {x : Int} (h : -9223372036854775808 ≤ x ∧ x ≤ 9223372036854775807) : wrap64 x = x := by
 unfold wrap64
 omega
theorem toList_inj {a b : ByteArray} : a.toList = b.toList ↔ a = b := by
 constructor
 ·intro h
  rw [ByteArray.toList_eq, ByteArray.toList_eq] at h
  exact Go.WideShapes.bytes_inj h
 ·intro h
  rw [h]
theorem rdOf_at {α : Type} (d : α) (l : List α) (i : Nat) (h : i < l.length) : rdOf d l (i : Int) = l[i] := by
 simp [rdOf, h]
theorem rd_at (l : List Int) (i : Nat) (h : i < l.length) : rd l (i : Int) = l[i] := by
 simp [rd, h]
theorem take_succ_at {α : Type} (l : List α) (i : Nat) (h : i < l.length) : l.take (i + 1) = l.take i ++ [l[i]] := by
 rw [List.take_succ_eq_append_getElem h]
theorem drop_at {α : Type} (l : List α) (i : Nat) (h : i < l.length) : l.drop i = l[i] :: l.drop (i + 1) := List.drop_eq_getElem_cons h
theorem mx_eq (a b : Nat) : mx (a : Int) (b : Int) = ((max a b : Nat) : Int) := by
 unfold mx
 split <;> omega
end Go.Proofs.Ytmgbbmjfjnhmiaa.Pr
end
section
namespace Go.Proofs
open Go.Shelf
def Try.lays156_ren : Go.Shelf.Ren := ⟨fun | 156 => 31 | 165 => 39 | 166 => 40 | 169 => 41 | 240 => 48 | 241 => 49 | 276 => 52 | 277 => 53 | n => n, fun | 31 => 22 | 9 => 9 | 3 => 3 | 4 => 4 | 0 => 0 | 20 => 20 | 72 => 70 | 76 => 74 | 70 => 68 | 37 => 49 | 75 => 73 | 127 => 82 | 164 => 84 | 5 => 5 | 80 => 76 | n => n, fun | n => n⟩
theorem Try.lays156 : Go.Proofs.Lays.n156 Try.prog Try.lays156_ren := {
 mixed := by kernel_rfl
 f156 := Try.func31.trans (congrArg some (by kernel_rfl))
 f165 := Try.func39.trans (congrArg some (by kernel_rfl))
 f166 := Try.func40.trans (congrArg some (by kernel_rfl))
 f169 := Try.func41.trans (congrArg some (by kernel_rfl))
 f240 := Try.func48.trans (congrArg some (by kernel_rfl))
 f241 := Try.func49.trans (congrArg some (by kernel_rfl))
 f276 := Try.func52.trans (congrArg some (by kernel_rfl))
 f277 := Try.func53.trans (congrArg some (by kernel_rfl))
 t0 := Try.underlying0
 a0 := Try.isAgg0
 z0 := Try.sizeOf0
 v0 := Try.zeroValue0
 t3 := Try.underlying3
 a3 := Try.isAgg3
 z3 := Try.sizeOf3
 v3 := Try.zeroValue3
 t4 := Try.underlying4
 a4 := Try.isAgg4
 z4 := Try.sizeOf4
 v4 := Try.zeroValue4
 t9 := Try.underlying9
 a9 := Try.isAgg9
 z9 := Try.sizeOf9
 v9 := Try.zeroValue9
 t20 := Try.underlying20
 a20 := Try.isAgg20
 z20 := Try.sizeOf20
 v20 := Try.zeroValue20
 t31 := Try.underlying22
 a31 := Try.isAgg22
 z31 := Try.sizeOf22
 v31 := Try.zeroValue22
 t37 := Try.underlying49
 a37 := Try.isAgg49
 z37 := Try.sizeOf49
 v37 := Try.zeroValue49
 t70 := Try.underlying68
 a70 := Try.isAgg68
 z70 := Try.sizeOf68
 v70 := Try.zeroValue68
 t72 := Try.underlying70
 a72 := Try.isAgg70
 z72 := Try.sizeOf70
 v72 := Try.zeroValue70
 t75 := Try.underlying73
 a75 := Try.isAgg73
 z75 := Try.sizeOf73
 v75 := Try.zeroValue73
 t76 := Try.underlying74
 a76 := Try.isAgg74
 z76 := Try.sizeOf74
 v76 := Try.zeroValue74
 t127 := Try.underlying82
 a127 := Try.isAgg82
 z127 := Try.sizeOf82
 v127 := Try.zeroValue82
 t164 := Try.underlying84
 a164 := Try.isAgg84
 z164 := Try.sizeOf84
 v164 := Try.zeroValue84 }
theorem Try.Builder_Extra_156 : Builder.Extra Try.prog Try.lays156_ren := {
 sizeBuilder := by kernel_rfl
 liesBuilder := by kernel_rfl
 t5 := Try.underlying5
 a5 := Try.isAgg5
 z5 := Try.sizeOf5
 v5 := Try.zeroValue5
 infoByte := by kernel_rfl
 cellsByte := by kernel_rfl
 sizeByte := by kernel_rfl
 neB5 := by decide }
open Go.RowKit in
theorem Try.strings_Join (bk o c : Nat) (xs : List ByteArray) (sep : ByteArray) (w : World) (hcells : ∀ (j : Nat) x, xs[j]? = some x → w.cell? ⟨bk, o + j, none⟩ = some (.string x)) (hbk : bk < w.heap.size) (hN : xs.length ≤ 140737488355328) (hcap : xs.length ≤ c) (hlen : (Lib.join (xs.map (·.data.toList)) sep.data.toList).length ≤ 140737488355328) :
  Calls Try.prog 31 #[.slice (some ⟨bk, o, none⟩) xs.length c, .string sep] w fun e w' => e = .returned (.string ⟨(Lib.join (xs.map (·.data.toList)) sep.data.toList).toArray⟩) ∧ Below w.heap.size w w' := Any.strings_Join Try.lays156 Try.Builder_Extra_156 bk o c xs sep w hcells hbk hN hcap hlen
def Try.lays137_ren : Go.Shelf.Ren := ⟨fun | 137 => 45 | 217 => 51 | 266 => 54 | n => n, fun | 9 => 9 | 5 => 5 | 3 => 3 | n => n, fun | n => n⟩
theorem Try.lays137 : Go.Proofs.Lays.n137 Try.prog Try.lays137_ren := {
 mixed := by kernel_rfl
 f137 := Try.func45.trans (congrArg some (by kernel_rfl))
 f217 := Try.func51.trans (congrArg some (by kernel_rfl))
 f266 := Try.func54.trans (congrArg some (by kernel_rfl))
 t3 := Try.underlying3
 a3 := Try.isAgg3
 z3 := Try.sizeOf3
 v3 := Try.zeroValue3
 t5 := Try.underlying5
 a5 := Try.isAgg5
 z5 := Try.sizeOf5
 v5 := Try.zeroValue5
 t9 := Try.underlying9
 a9 := Try.isAgg9
 z9 := Try.sizeOf9
 v9 := Try.zeroValue9 }
open Go.RowKit in
theorem Try.strings_IndexByte (s : ByteArray) (c : Int) (w : World) :
  Calls Try.prog 45 #[.string s, .int .u8 c] w fun e w' => e = .returned (.int .i64 (Lib.indexByte s.data.toList c.toNat.toUInt8)) ∧ w' = w := Any.strings_IndexByte Try.lays137 s c w
end Go.Proofs
end
section
namespace Go.Proofs.Ytmgbbmjfjnhmiaa.Pr
open Go.RowKit Go.Proofs.YtmgbbmjfjnhmiaaW.PrintWords Go.Proofs.YtmgbbmjfjnhmiaaW.PrintLast Go.Proofs.YtmgbbmjfjnhmiaaW.PrintMore
def feedy (s : ByteArray) : Bool := decide (0 ≤ Go.Lib.indexByte s.data.toList 10)
def idxFrom (p : ByteArray → Bool) : List ByteArray → Nat → Int
 | [], _ => -1
 | s :: l, i => if p s = true then (i : Int) else idxFrom p l (i + 1)
theorem idxFrom_hit (p : ByteArray → Bool) : ∀ (l : List ByteArray) (i kk : Nat) (hk : kk < l.length), (∀ j (hj : j < kk), p (l[j]'(by omega)) = false) → p l[kk] = true → idxFrom p l i = ((i + kk : Nat) : Int)
 | s :: l, i, 0, _, _, h => by simp only [List.getElem_cons_zero] at h; simp [idxFrom, h]
 | s :: l, i, kk + 1, hk, hn, h => by
  have h0 := hn 0 (by omega)
  simp only [List.getElem_cons_zero] at h0
  simp only [idxFrom, h0]
  have := idxFrom_hit p l (i + 1) kk (by simpa using hk) (fun j hj => by simpa using hn (j + 1) (by omega)) (by simpa using h)
  rw [if_neg (by simp), this]
  omega
theorem idxFrom_miss (p : ByteArray → Bool) : ∀ (l : List ByteArray) (i : Nat), (∀ j (hj : j < l.length), p (l[j]'hj) = false) → idxFrom p l i = -1
 | [], i, _ => rfl
 | s :: l, i, h => by
  have h0 := h 0 (by simp)
  simp only [List.getElem_cons_zero] at h0
  simp only [idxFrom, h0]
  rw [if_neg (by simp)]
  exact idxFrom_miss p l (i + 1) (fun j hj => h (j + 1) (by simpa using hj))
theorem idxFrom_nonneg (p : ByteArray → Bool) : ∀ (l : List ByteArray) (i : Nat), 0 ≤ idxFrom p l i ↔ l.any p = true
 | [], i => by simp [idxFrom]
 | s :: l, i => by
  have ih := idxFrom_nonneg p l (i + 1)
  by_cases h : p s = true
  ·simp [idxFrom, h]
  ·simp only [idxFrom, List.any_cons, Bool.eq_false_iff.2 h, Bool.false_or]
   exact ih
theorem idxFrom_any (p : ByteArray → Bool) (l : List ByteArray) (i : Nat) : decide (0 ≤ idxFrom p l i) = l.any p := by
 rw [Bool.eq_iff_iff, decide_eq_true_iff]
 exact idxFrom_nonneg p l i
theorem odd1_any (s : ByteArray) (w : World) : Calls Try.prog 47 #[.string s] w fun e w' => e = .returned (.bool (feedy s)) ∧ w' = w := by
 go_enter Try.func47, Try.ntmps47
 go_wp2_with (go_at_call 45; refine (Try.strings_IndexByte _ _ _).mono ?_; rintro e w' ⟨rfl, rfl⟩)
 go_ret
 exact ⟨rfl, rfl⟩
set_option maxHeartbeats 2000000 in
theorem idxf_any (A0 : Option Addr) (c0 : Nat) (l0 : List ByteArray) (w : World) (hr0 : Kd.C Kd.string w A0 l0.length l0) :
  Calls Try.prog 50 #[.slice A0 l0.length c0, .func (.func 47) #[] #[]] w fun e w' => e = .returned (.int .i64 (idxFrom feedy l0 0)) ∧ Drawn0 w w' := by
 have hbig : l0.length ≤ 9223372036854775807 := hr0.2.1
 have eg : ∀ args w, (callFunc 47 args).run Try.prog w = .ok (.enter 47 args) w := enters_of Try.func47 (by kernel_rfl) rfl
 have HR0 := Aside0.mk hr0
 clear hr0
 go_enter Try.func50, Try.ntmps50
 go_wp2
 go_loopg [5, 8] l0.length (fun gg _ s8 wr => ∃ kk q : Nat, kk ≤ l0.length ∧ l0.length - kk ≤ gg ∧ s8 = .int .i64 kk ∧ wr = w.drewN q ∧ Aside0 (∀ j (hj : j < l0.length), j < kk → feedy (l0[j]'hj) = false))
 case atStart => exact ⟨0, 0, Nat.zero_le _, by omega, rfl, rfl, ⟨fun j _ hj => absurd hj (Nat.not_lt_zero _)⟩⟩
 case round =>
  obtain ⟨kk, q, hkk, hg, rfl, rfl, HN⟩ := hrel
  by_cases hlt : kk < l0.length
  ·have hltz : (kk : Int) < (l0.length : Int) := by omega
   obtain ⟨ad, rfl, hcell⟩ := Kd.at_string HR0.out (kk : Int) (by omega) (by omega)
   simp only [Int.toNat_natCast] at hcell
   have hy0 : rdOf ByteArray.empty l0 (kk : Int) = l0[kk] := by simp [rdOf, hlt]
   rw [hy0] at hcell
   obtain ⟨y, hy⟩ : ∃ y, y = l0[kk] := ⟨_, rfl⟩
   rw [← hy] at hcell
   have HY := Aside0.mk hy
   clear hy hy0
   have hcall := odd1_any y
   cases hq : feedy y with
   | true =>
    rw [hq] at hcall
    go_wp2_with (go_at_fn 47; refine (hcall _).mono ?_; rintro e w' ⟨rfl, rfl⟩)
    go_ret
    refine ⟨?_, ⟨⟨_, rfl⟩⟩⟩
    rw [idxFrom_hit feedy l0 0 kk hlt (fun j hj => HN.out j (by omega) hj) (by rw [← HY.out]; exact hq)]
    simp
   | false =>
    rw [hq] at hcall
    go_wp2_with (go_at_fn 47; refine (hcall _).mono ?_; rintro e w' ⟨rfl, rfl⟩)
    go_roundg (l0.length - (kk + 1))
    case measure => omega
    case rel =>
     refine ⟨kk + 1, _, by omega, by omega, by go_num, rfl, ⟨fun j hjl hj => ?_⟩⟩
     by_cases e : j = kk
     ·subst e
      rw [← HY.out]; exact hq
     ·exact HN.out j hjl (by omega)
  ·have hltz : ¬ (kk : Int) < (l0.length : Int) := by omega
   have hk : kk = l0.length := by omega
   have HK := Aside0.mk hk
   clear hk
   go_wp2
   go_ret
   refine ⟨?_, ⟨⟨q, rfl⟩⟩⟩
   rw [idxFrom_miss feedy l0 0 (fun j hj => HN.out j hj (by rw [HK.out]; exact hj))]
   rfl
theorem contains_any (A0 : Option Addr) (c0 : Nat) (l0 : List ByteArray) (w : World) (hr0 : Kd.C Kd.string w A0 l0.length l0) :
  Calls Try.prog 43 #[.slice A0 l0.length c0, .func (.func 47) #[] #[]] w fun e w' => e = .returned (.bool (l0.any feedy)) ∧ Drawn0 w w' := by
 rw [← idxFrom_any feedy l0 0]
 go_enter Try.func43, Try.ntmps43
 go_wp2_with (go_at_call 50; refine (idxf_any A0 c0 l0 _ hr0).mono ?_; rintro e w' ⟨rfl, ⟨q, rfl⟩⟩)
 go_ret
 exact ⟨rfl, ⟨⟨q, rfl⟩⟩⟩
def lines_odd.f (l0 : List ByteArray) : Option (Bool) := some (l0.any feedy)
theorem lines_odd.calls (A0 : Option Addr) (c0 : Nat) (l0 : List ByteArray) (r : Bool) (w : World) (hr0 : Kd.C Kd.string w A0 l0.length l0) (hc0 : l0.length ≤ c0) (h : lines_odd.f l0 = some r) :
  Calls Try.prog 38 #[.slice A0 l0.length c0] w fun e w' => e = .returned (.bool r) ∧ Drawn0 w w' := by
 obtain rfl : l0.any feedy = r := by simpa [lines_odd.f] using h
 clear h
 go_enter Try.func38, Try.ntmps38
 go_wp2_with (go_at_call 43; refine (contains_any A0 c0 l0 _ hr0).mono ?_; rintro e w' ⟨rfl, ⟨q, rfl⟩⟩)
 go_ret
 exact ⟨rfl, ⟨⟨q, rfl⟩⟩⟩
end Go.Proofs.Ytmgbbmjfjnhmiaa.Pr
end
section
namespace Go.Proofs.Ytmgbbmjfjnhmiaa.Pr
open Go.RowKit Go.Proofs.YtmgbbmjfjnhmiaaW.PrintWords Go.Proofs.YtmgbbmjfjnhmiaaW.PrintLast Go.Proofs.YtmgbbmjfjnhmiaaW.PrintMore
attribute [local go_sem] max2_int min2_int max_two min_two max_three min_three max_four min_four   
def lines_check.l0 : Nat → List ByteArray → Int → List ByteArray → Int → Int → Option (Int)
 | 0, _, _, _, _, _ => none
 | k + 1, x0, x3, x12, x13, x14 => if x14 < x13 then (if 0 ≤ x14 then (if x14 < (x12.length : Int) then (lines_check.l0 k x0 (wrap64 (x3 + ((rdOf ByteArray.empty x12 x14).size : Int))) x12 x13 (wrap64 (x14 + 1))) else (none)) else (none)) else (if x3 > 2000 then (some 4) else (if (x0.length : Int) = 0 then (some 8) else ((lines_odd.f x0).bind fun t316 => (if t316 = true then (some 8) else (some 0)))))
def lines_check.f (k : Nat) (l0 : List ByteArray) : Option (Int) := if (l0.length : Int) > 60 then (some 4) else (lines_check.l0 k l0 (wrap64 ((l0.length : Int) - 1)) l0 (l0.length : Int) 0)
set_option maxHeartbeats 8000000 in
set_option maxRecDepth 100000 in
theorem lines_check.calls (k : Nat) (A0 : Option Addr) (c0 : Nat) (l0 : List ByteArray) (r : Int) (w : World) (hr0 : Kd.C Kd.string w A0 l0.length l0) (hc0 : l0.length ≤ c0) (h : lines_check.f k l0 = some r) :
  Calls Try.prog 30 #[.slice A0 l0.length c0] w fun e w' => e = .returned (.int .i64 r) ∧ Drawn0 w w' := by
 have HR0 := Aside0.mk hr0
 have HC0 := Aside0.mk hc0
 clear hr0 hc0
 have H : (if (l0.length : Int) > 60 then (some 4) else (lines_check.l0 k l0 (wrap64 ((l0.length : Int) - 1)) l0 (l0.length : Int) 0)) = some r := h
 clear h
 by_cases c2 : (l0.length : Int) > 60
 ·rw [if_pos c2] at H
  have c2b0 : decide (60 < (l0.length : Int)) = true := decide_eq_true c2
  have c2b1 : decide (60 < l0.length) = true := decide_eq_true (by omega)
  clear c2
  obtain rfl := Option.some.inj H
  go_enter Try.func30, Try.ntmps30
  go_wp2
  go_ret
  exact ⟨by first | rfl | (simp; done) | (simp [*]; done), by repeat (first | exact Drawn0.refl _ | apply Drawn0.step)⟩
 ·rw [if_neg c2] at H
  have c2b0 : decide (60 < (l0.length : Int)) = false := decide_eq_false c2
  have c2b1 : decide (60 < l0.length) = false := decide_eq_false (by omega)
  clear c2
  have H' := Aside0.mk H
  clear H
  go_enter Try.func30, Try.ntmps30
  go_wp2
  go_loopg [3, 14] k (fun kq v3 v14 w' => ∃ (x3_1 : Int) (x14_1 : Int), v3 = .int .i64 x3_1 ∧ v14 = .int .i64 x14_1 ∧ Aside0 (lines_check.l0 kq l0 x3_1 l0 (l0.length : Int) x14_1 = some r) ∧ Aside0 (kq ≤ k) ∧ Drawn0 w w')
  case atStart => exact ⟨(wrap64 ((l0.length : Int) - 1)), (0), (by first | rfl | (simp; done) | (simp [*]; done)), (by first | rfl | (simp; done) | (simp [*]; done)), H', ⟨Nat.le_refl _⟩, by repeat (first | exact Drawn0.refl _ | apply Drawn0.step)⟩
  case round =>
   clear H'
   try clear c2
   try clear c2b0
   try clear c2b1
   try clear p2
   obtain ⟨x3_1, x14_1, rfl, rfl, HA, HK1, ⟨m1, rfl⟩⟩ := hrel
   cases gk with
   | zero => exact absurd HA.out (by simp [lines_check.l0])
   | succ k1 =>
    have H := HA.out
    clear HA
    simp only [lines_check.l0] at H
    by_cases c3 : x14_1 < (l0.length : Int)
    ·rw [if_pos c3] at H
     have c3b0 : decide (x14_1 < (l0.length : Int)) = true := decide_eq_true c3
     clear c3
     by_cases c4 : 0 ≤ x14_1
     ·rw [if_pos c4] at H
      have c4b0 : decide (0 ≤ x14_1) = true := decide_eq_true c4
      clear c4
      by_cases c5 : x14_1 < (l0.length : Int)
      ·rw [if_pos c5] at H
       have c5b0 : decide (x14_1 < (l0.length : Int)) = true := decide_eq_true c5
       clear c5
       have H' := Aside0.mk H
       clear H
       have p315 : 0 ≤ (x14_1 : Int) := of_decide_eq_true (by first | (with_reducible assumption) | assumption)
       have q315 : x14_1 < (l0.length : Int) := of_decide_eq_true (by first | (with_reducible assumption) | assumption)
       obtain ⟨ad315, e315, hx315_0⟩ := Kd.at_string HR0.out x14_1 p315 q315
       cases e315
       replace p315 := eq_true p315
       replace q315 := eq_true q315
       go_wp2
       go_roundg k1
       case measure => have := HK1.out; omega
       case rel => exact ⟨(wrap64 (x3_1 + ((rdOf ByteArray.empty l0 x14_1).size : Int))), (wrap64 (x14_1 + 1)), (by first | rfl | (simp; done) | (simp [*]; done)), (by first | rfl | (simp; done) | (simp [*]; done)), H', ⟨by have := HK1.out; omega⟩, by repeat (first | exact Drawn0.refl _ | apply Drawn0.step)⟩
      ·rw [if_neg c5] at H
       exact absurd H (by simp)
     ·rw [if_neg c4] at H
      exact absurd H (by simp)
    ·rw [if_neg c3] at H
     have c3b0 : decide (x14_1 < (l0.length : Int)) = false := decide_eq_false c3
     clear c3
     by_cases c6 : x3_1 > 2000
     ·rw [if_pos c6] at H
      have c6b0 : decide (2000 < x3_1) = true := decide_eq_true c6
      clear c6
      obtain rfl := Option.some.inj H
      go_wp2
      go_ret
      exact ⟨by first | rfl | (simp; done) | (simp [*]; done), by repeat (first | exact Drawn0.refl _ | apply Drawn0.step)⟩
     ·rw [if_neg c6] at H
      have c6b0 : decide (2000 < x3_1) = false := decide_eq_false c6
      clear c6
      by_cases c7 : (l0.length : Int) = 0
      ·rw [if_pos c7] at H
       have c7b0 : ((l0.length : Int) == 0) = true := beq_iff_eq.mpr c7
       have c7b1 : ((l0.length : Int) != 0) = false := bne_eq_false_iff_eq.mpr c7
       clear c7
       obtain rfl := Option.some.inj H
       go_wp2
       go_ret
       exact ⟨by first | rfl | (simp; done) | (simp [*]; done), by repeat (first | exact Drawn0.refl _ | apply Drawn0.step)⟩
      ·rw [if_neg c7] at H
       have c7b0 : ((l0.length : Int) == 0) = false := beq_eq_false_iff_ne.mpr c7
       have c7b1 : ((l0.length : Int) != 0) = true := bne_iff_ne.mpr c7
       have c7b2 : ¬ (l0 = []) := fun h_ => c7 (by rw [h_]; rfl)
       replace H := Option.bind_eq_some_iff.mp H
       obtain ⟨t316, A80, H⟩ := H
       replace H : (if t316 = true then (some 8) else (some 0)) = some r := H
       have A8 := Aside0.mk A80
       clear A80
       by_cases c9 : t316 = true
       ·subst c9
        have H1 : (some 8) = some r := by rw [if_pos rfl] at H; exact H
        clear H
        have H := H1
        clear H1
        obtain rfl := Option.some.inj H
        go_wp2_with (first | (go_at_call 38; (with_reducible refine (lines_odd.calls _ _ l0 true _ ?side1 ?side2 A8.out).mono ?_); (case side1 => repeat (first | exact HR0.out | (with_reducible refine Kd.C_alloc ?_ _) | (with_reducible refine Kd.C_drewN ?_ _) | (with_reducible refine Kd.C_drew ?_))); (case side2 => exact HC0.out); rintro e w' ⟨rfl, ⟨nd, rfl⟩⟩))
        go_ret
        exact ⟨by first | rfl | (simp; done) | (simp [*]; done), by repeat (first | exact Drawn0.refl _ | apply Drawn0.step)⟩
       ·replace c9 := Bool.eq_false_iff.mpr c9
        subst c9
        have H1 : (some 0) = some r := by rw [if_neg (show ¬ (false = true) by decide)] at H; exact H
        clear H
        have H := H1
        clear H1
        obtain rfl := Option.some.inj H
        go_wp2_with (first | (go_at_call 38; (with_reducible refine (lines_odd.calls _ _ l0 false _ ?side1 ?side2 A8.out).mono ?_); (case side1 => repeat (first | exact HR0.out | (with_reducible refine Kd.C_alloc ?_ _) | (with_reducible refine Kd.C_drewN ?_ _) | (with_reducible refine Kd.C_drew ?_))); (case side2 => exact HC0.out); rintro e w' ⟨rfl, ⟨nd, rfl⟩⟩))
        go_ret
        exact ⟨by first | rfl | (simp; done) | (simp [*]; done), by repeat (first | exact Drawn0.refl _ | apply Drawn0.step)⟩
end Go.Proofs.Ytmgbbmjfjnhmiaa.Pr
end
section
namespace Go.Proofs.Ytmgbbmjfjnhmiaa.Pr
open Go.RowKit Go.Proofs.YtmgbbmjfjnhmiaaW.PrintWords Go.Proofs.YtmgbbmjfjnhmiaaW.PrintLast Go.Proofs.YtmgbbmjfjnhmiaaW.PrintMore
def bytesIn (l : List ByteArray) : Nat := (l.map (·.size)).sum
def linesErr (l : List ByteArray) : Int := if 60 < l.length then 4 else if 2001 < bytesIn l + l.length then 4 else if l.length = 0 then 8 else if l.any feedy = true then 8 else 0
def small (l : List ByteArray) : Prop := ∀ s ∈ l, s.size ≤ 140737488351232
theorem bytesIn_take_succ (l : List ByteArray) (i : Nat) (h : i < l.length) : bytesIn (l.take (i + 1)) = bytesIn (l.take i) + l[i].size := by
 unfold bytesIn
 rw [take_succ_at l i h, List.map_append, List.sum_append]
 simp
theorem bytesIn_le (l : List ByteArray) (h : small l) : bytesIn l ≤ l.length * 140737488351232 := by
 induction l with
 | nil => simp [bytesIn]
 | cons s l ih =>
  have h1 := h s (by simp)
  have h2 := ih (fun x hx => h x (by simp [hx]))
  simp only [bytesIn, List.map_cons, List.sum_cons, List.length_cons] at h2 ⊢
  omega
theorem small_take {l : List ByteArray} (h : small l) (i : Nat) : small (l.take i) := fun s hs => h s (List.mem_of_mem_take hs)
theorem check_loop (l : List ByteArray) (hs : small l) (hl : l.length ≤ 60) : ∀ (d i : Nat), i + d = l.length →
  Ev (fun k => lines_check.l0 k l ((l.length : Int) - 1 + (bytesIn (l.take i) : Int)) l (l.length : Int) (i : Int)) (linesErr l) := by
 have hfin : Ev (fun k => lines_check.l0 k l ((l.length : Int) - 1 + (bytesIn (l.take l.length) : Int)) l (l.length : Int) (l.length : Int)) (linesErr l) := by
  refine Ev.step (fun k => by rw [lines_check.l0]) ?_
  refine Ev.neg (by omega) ?_
  rw [List.take_length]
  unfold linesErr
  rw [if_neg (show ¬ 60 < l.length by omega)]
  by_cases h1 : 2001 < bytesIn l + l.length
  ·rw [if_pos h1]
   exact Ev.pos (by omega) (Ev.now _)
  ·rw [if_neg h1]
   refine Ev.neg (by omega) ?_
   by_cases h2 : l.length = 0
   ·rw [if_pos h2]
    exact Ev.pos (by omega) (Ev.now _)
   ·rw [if_neg h2]
    refine Ev.neg (by omega) ?_
    by_cases h3 : l.any feedy = true
    ·rw [if_pos h3]
     exact Ev.bc (show lines_odd.f l = some true by unfold lines_odd.f; rw [h3]) (Ev.pos rfl (Ev.now _))
    ·rw [if_neg h3]
     exact Ev.bc (show lines_odd.f l = some false by unfold lines_odd.f; rw [Bool.eq_false_iff.2 h3]) (Ev.neg (by simp) (Ev.now _))
 intro d
 induction d with
 | zero =>
  intro i hi
  obtain rfl : i = l.length := by omega
  exact hfin
 | succ d ih =>
  intro i hi
  have hlt : i < l.length := by omega
  have hb := bytesIn_le _ (small_take hs (i + 1))
  have hs' := bytesIn_take_succ l i hlt
  have hk : (l.take (i + 1)).length ≤ 60 := by rw [List.length_take]; omega
  refine Ev.step (fun k => by rw [lines_check.l0]) ?_
  refine Ev.pos (by omega) (Ev.pos (by omega) (Ev.pos (by omega) ?_))
  rw [rdOf_at _ _ _ hlt, w64 (by omega), w64 (by omega)]
  have h := ih (i + 1) (by omega)
  rw [hs'] at h
  simpa [Int.add_assoc] using h
theorem check_ev (l : List ByteArray) (hs : small l) : Ev (fun k => lines_check.f k l) (linesErr l) := by
 unfold lines_check.f
 by_cases hl : 60 < l.length
 ·refine Ev.pos (by omega) (Ev.rt ?_)
  unfold linesErr
  rw [if_pos hl]
 ·refine Ev.neg (by omega) ?_
  have h := check_loop l hs (by omega) l.length 0 (by omega)
  rw [w64 (by omega)]
  simpa [bytesIn] using h
end Go.Proofs.Ytmgbbmjfjnhmiaa.Pr
end
section
namespace Go.Proofs.Ytmgbbmjfjnhmiaa.Pr
open Go.RowKit Go.Proofs.YtmgbbmjfjnhmiaaW.PrintWords Go.Proofs.YtmgbbmjfjnhmiaaW.PrintLast Go.Proofs.YtmgbbmjfjnhmiaaW.PrintMore
theorem cell_lt {w : World} {a : Addr} {v : Value} (h : w.cell? a = some v) : a.spot = none ∧ a.block < w.heap.size := by
 refine ⟨?_, World.block_lt_of_cell? w a h⟩
 unfold World.cell? at h
 split at h
 ·split at h
  ·cases h
  ·rename_i hs
   cases hsp : a.spot
   ·rfl
   ·simp [hsp] at hs
 ·cases h
theorem C_addr {α : Type} {d : Kd α} {w : World} {A : Option Addr} {n : Nat} {xs : List α} (hs : 0 < d.sz) (h : d.C w A n xs) (hp : 0 < n) : ∃ b o, A = some ⟨b, o, none⟩ ∧ b < w.heap.size := by
 obtain ⟨ad, rfl, hc⟩ := h.2.2 hp
 have h1 := h.1
 obtain ⟨c, hl, _, hcc⟩ := hc 0 xs[0] (by simp)
 have h0 := hcc 0 c[0] (by simp)
 have h2 := cell_lt h0
 have e : ad.add (0 * d.sz + 0) = ad := by simp [Addr.add]
 rw [e] at h2
 obtain ⟨b, o, sp⟩ := ad
 obtain rfl : sp = none := h2.1
 exact ⟨b, o, rfl, h2.2⟩
theorem C_strings {w : World} {A : Option Addr} {xs : List ByteArray} (h : Kd.C Kd.string w A xs.length xs) (hp : 0 < xs.length) : ∃ b o, A = some ⟨b, o, none⟩ ∧ b < w.heap.size ∧ ∀ (j : Nat) x, xs[j]? = some x → w.cell? ⟨b, o + j, none⟩ = some (.string x) := by
 obtain ⟨b, o, rfl, hb⟩ := C_addr (d := Kd.string) (by decide) h hp
 refine ⟨b, o, rfl, hb, fun j x hx => ?_⟩
 have hj : j < xs.length := (List.getElem?_eq_some_iff.1 hx).1
 obtain ⟨ad, e, hc⟩ := Kd.at_string h (j : Int) (by omega) (by omega)
 injection e with e
 subst e
 have hx' : rdOf ByteArray.empty xs (j : Int) = x := by simp [rdOf, hx]
 rw [hx', Int.toNat_natCast] at hc
 have ha : (⟨b, o, none⟩ : Addr).add j = ⟨b, o + j, none⟩ := by unfold Addr.add; split <;> simp_all
 rwa [ha] at hc
theorem bytes_C (W : World) (e : TypeId) (s : ByteArray) (hs : s.size ≤ 9223372036854775807) : Kd.C (Kd.int .u8) (Lib.bytesWorld W e s) (some ⟨W.heap.size, 0, none⟩) s.size (bytesOf s) := Kd.C_of_reads (d := (0 : Int)) (h1 := fun _ => rfl) (bytes_reads W e s hs)
theorem bytes_V (W : World) (e : TypeId) (s : ByteArray) (hs : s.size ≤ 9223372036854775807) (c : Nat) (hc : s.size ≤ c) {B : Nat} (hB : B ≤ W.heap.size) : Kd.V (Kd.int .u8) e (Lib.bytesWorld W e s) B (fun k_ => B ≤ k_) (.slice (some ⟨W.heap.size, 0, none⟩) s.size c) (bytesOf s) := by
 refine ⟨some ⟨W.heap.size, 0, none⟩, c, by rw [bytesOf_length], by rw [bytesOf_length]; exact hc, ?_⟩
 rw [bytesOf_length]
 intro W' hW
 have hb := hW W.heap.size hB (by rw [Lib.bytesWorld_size]; omega)
 have h := bytes_C W e s hs
 obtain ⟨h1, h2, h3⟩ := h
 refine ⟨h1, h2, fun hp => ?_⟩
 obtain ⟨ad, ea, hcell⟩ := h3 hp
 refine ⟨ad, ea, fun j p hj => ?_⟩
 obtain ⟨cs, e1, e2, e3⟩ := hcell j p hj
 refine ⟨cs, e1, e2, fun i u hu => ?_⟩
 have := e3 i u hu
 injection ea with ea
 subst ea
 have hbk : ∀ m, ((⟨W.heap.size, 0, none⟩ : Addr).add m).block = W.heap.size := fun m => by unfold Addr.add; split <;> rfl
 unfold World.cell? at this ⊢
 rw [hbk] at this ⊢
 rw [hb]
 exact this
end Go.Proofs.Ytmgbbmjfjnhmiaa.Pr
end
section
namespace Go.Proofs.Ytmgbbmjfjnhmiaa.Pr
open Go.RowKit Go.Proofs.YtmgbbmjfjnhmiaaW.PrintWords Go.Proofs.YtmgbbmjfjnhmiaaW.PrintLast Go.Proofs.YtmgbbmjfjnhmiaaW.PrintMore
attribute [local go_sem] max2_int min2_int max_two min_two max_three min_three max_four min_four   
def sidingref13_Parts.l0 : Nat → List Int → List ByteArray → Int → Int → Option (List ByteArray)
 | 0, _, _, _, _ => none
 | k + 1, x0, x3, x4, x5 => if x5 < (x0.length : Int) then (if 0 ≤ x5 then (if (rd x0 x5) = 10 then (if 0 ≤ x4 then (if x4 ≤ x5 then (if x5 ≤ (x0.length : Int) then (if 0 ≤ (wrap64 ((x3.length : Int) - 1)) then (if (wrap64 ((x3.length : Int) - 1)) < (x3.length : Int) then ((some (x3.set ((wrap64 ((x3.length : Int) - 1)) : Int).toNat (strOfNums ((x0.take (x5 : Int).toNat).drop (x4 : Int).toNat)) : List ByteArray)).bind fun y322 => (if y322.length < 8796093022208 then (sidingref13_Parts.l0 k x0 (y322 ++ [(⟨#[]⟩ : ByteArray)]) (wrap64 (x5 + 1)) (wrap64 (x5 + 1))) else (none))) else (none)) else (none)) else (none)) else (none)) else (none)) else (sidingref13_Parts.l0 k x0 x3 x4 (wrap64 (x5 + 1)))) else (none)) else (if 0 ≤ x4 then (if x4 ≤ (x0.length : Int) then (if 0 ≤ (wrap64 ((x3.length : Int) - 1)) then (if (wrap64 ((x3.length : Int) - 1)) < (x3.length : Int) then (some (x3.set ((wrap64 ((x3.length : Int) - 1)) : Int).toNat (strOfNums (x0.drop (x4 : Int).toNat)))) else (none)) else (none)) else (none)) else (none))
def sidingref13_Parts.f (k : Nat) (l0 : List Int) : Option (List ByteArray) := sidingref13_Parts.l0 k l0 (([(⟨#[]⟩ : ByteArray)] : List ByteArray)) 0 0
set_option maxHeartbeats 8000000 in
set_option maxRecDepth 100000 in
theorem sidingref13_Parts.calls (k : Nat) (A0 : Option Addr) (c0 : Nat) (l0 : List Int) (r : List ByteArray) (w : World) (hr0 : Kd.C (Kd.int .u8) w A0 l0.length l0) (hc0 : l0.length ≤ c0) (h : sidingref13_Parts.f k l0 = some r) :
  Calls Try.prog 42 #[.slice A0 l0.length c0] w fun e w' => ∃ v0_ : Value, e = .returned (v0_) ∧ Kd.R Kd.string 9 w' w.heap.size (fun _ => True) v0_ r ∧ Below w.heap.size w w' := by
 have HR0 := Aside0.mk hr0
 have HC0 := Aside0.mk hc0
 clear hr0 hc0
 have HB := Aside0.mk (Below.refl w.heap.size w)
 have H : (sidingref13_Parts.l0 k l0 (([(⟨#[]⟩ : ByteArray)] : List ByteArray)) 0 0) = some r := h
 clear h
 obtain ⟨y317, hy317⟩ : ∃ y_ : List ByteArray, y_ = (([(⟨#[]⟩ : ByteArray)] : List ByteArray)) := ⟨_, rfl⟩
 replace H : (sidingref13_Parts.l0 k l0 y317 0 0) = some r := by first | (rw [hy317]; with_reducible exact H) | (have H2_ := (Option.bind_some _ _).symm.trans H; rw [hy317]; with_reducible exact H2_) | (have H2_ := (Option.bind_some _ _).symm.trans H; with_reducible exact H2_) | with_reducible exact H | (rw [hy317]; exact H) | exact H
 have Ny317 := Aside0.mk hy317
 clear hy317
 have H' := Aside0.mk H
 clear H
 go_enter Try.func42, Try.ntmps42
 go_wp2_with (first | ((with_reducible refine gate_dst (N := 6) rfl ?_); refine Kd.R_lit Kd.string _ 9 ?hg (N := 6) ?hd (xs := ([(⟨#[]⟩ : ByteArray)] : List ByteArray)) (inner := [.string (⟨#[]⟩ : ByteArray)]) (ok := fun _ => True) (okp := fun _ => True) ?hr ?hp (fun _ hk => hk) trivial (Below.refl _ _) (Nat.le_refl _) (by simp) ?_; (case hd => rfl); (case hg => rfl); (case hr => first | (go_simp; done) | (go_simp; rfl)); (case hp => exact (Reps.one (show Kd.M Kd.string _ _ _ (⟨#[]⟩ : ByteArray) [.string (⟨#[]⟩ : ByteArray)] from rfl) (Reps.none _ _))); intro v318 w2 ho3 hb hg_ hnew_; clear hg_ hnew_; (first | rw [← Ny317.out] at ho3 | (simp only [Int.reduceToNat] at ho3; rw [← Ny317.out] at ho3)); have n0_ := Aside0.mk (Kd.R_lower ho3 (below_size (by repeat (first | (with_reducible first | exact HB.out | apply below_alloc | apply pw_below_drewN | apply below_drew1) | exact HB.out)))); have n1_ := Aside0.mk (below_step (by repeat (first | (with_reducible first | exact HB.out | apply below_alloc | apply pw_below_drewN | apply below_drew1) | exact HB.out)) hb); clear HB; have HO319 := n0_; have HB := n1_; clear n0_ n1_; clear hb ho3))
 go_loopg [3, 4, 5] k (fun kq v3 v4 v5 w' => ∃ (x3_1 : List ByteArray) (x4_1 : Int) (x5_1 : Int), v4 = .int .i64 x4_1 ∧ v5 = .int .i64 x5_1 ∧ Aside0 (sidingref13_Parts.l0 kq l0 x3_1 x4_1 x5_1 = some r) ∧ Aside0 (kq ≤ k) ∧ Aside0 (Kd.R Kd.string 9 w' w.heap.size (fun _ => True) v3 x3_1) ∧ Aside0 (Below w.heap.size w w'))
 case atStart => exact ⟨(y317), (0), (0), (by first | rfl | (simp; done) | (simp [*]; done)), (by first | rfl | (simp; done) | (simp [*]; done)), H', ⟨Nat.le_refl _⟩, ⟨by (with_reducible repeat (first | apply Kd.R_alloc | apply Kd.R_drewN | apply Kd.R_drew)); exact HO319.out⟩, ⟨by repeat (first | (with_reducible first | exact HB.out | apply below_alloc | apply pw_below_drewN | apply below_drew1) | exact HB.out)⟩⟩
 case round =>
  clear H'
  try clear p2
  obtain ⟨x3_1, x4_1, x5_1, rfl, rfl, HA, HK1, HO_3, HB⟩ := hrel
  cases gk with
  | zero => exact absurd HA.out (by simp [sidingref13_Parts.l0])
  | succ k1 =>
   have H := HA.out
   clear HA
   simp only [sidingref13_Parts.l0] at H
   by_cases c4 : x5_1 < (l0.length : Int)
   ·rw [if_pos c4] at H
    have c4b0 : decide (x5_1 < (l0.length : Int)) = true := decide_eq_true c4
    clear c4
    by_cases c5 : 0 ≤ x5_1
    ·rw [if_pos c5] at H
     have c5b0 : decide (0 ≤ x5_1) = true := decide_eq_true c5
     clear c5
     by_cases c6 : (rd l0 x5_1) = 10
     ·rw [if_pos c6] at H
      have c6b0 : ((rd l0 x5_1) == 10) = true := beq_iff_eq.mpr c6
      have c6b1 : ((rd l0 x5_1) != 10) = false := bne_eq_false_iff_eq.mpr c6
      clear c6
      by_cases c7 : 0 ≤ x4_1
      ·rw [if_pos c7] at H
       have c7b0 := eq_true c7
       have c7b1 : decide (0 ≤ x4_1) = true := decide_eq_true c7
       clear c7
       by_cases c8 : x4_1 ≤ x5_1
       ·rw [if_pos c8] at H
        have c8b0 := eq_true c8
        have c8b1 : decide (x4_1 ≤ x5_1) = true := decide_eq_true c8
        clear c8
        by_cases c9 : x5_1 ≤ (l0.length : Int)
        ·rw [if_pos c9] at H
         have c9b0 := eq_true c9
         have c9b1 : decide (x5_1 ≤ (l0.length : Int)) = true := decide_eq_true c9
         (try have c9m := Aside0.mk (Nat.min_eq_left (Int.toNat_le.2 c9)))
         clear c9
         obtain ⟨ji10, hji10⟩ : ∃ j_ : Int, (wrap64 ((x3_1.length : Int) - 1)) = j_ := ⟨_, rfl⟩
         replace H : (if 0 ≤ (ji10) then (if (ji10) < (x3_1.length : Int) then ((some (x3_1.set ((ji10) : Int).toNat (strOfNums ((l0.take (x5_1 : Int).toNat).drop (x4_1 : Int).toNat)) : List ByteArray)).bind fun y322 => (if y322.length < 8796093022208 then (sidingref13_Parts.l0 k1 l0 (y322 ++ [(⟨#[]⟩ : ByteArray)]) (wrap64 (x5_1 + 1)) (wrap64 (x5_1 + 1))) else (none))) else (none)) else (none)) = some r := by first | (rw [hji10] at H; exact H) | (simp only [hji10] at H ⊢; exact H)
         have hji10w : (IntKind.i64.wrap ((x3_1.length : Int) - 1)) = ji10 := (i64_w _).trans hji10
         by_cases c11 : 0 ≤ (ji10)
         ·rw [if_pos c11] at H
          have c11b0 : decide (0 ≤ (ji10)) = true := decide_eq_true c11
          clear c11
          by_cases c12 : (ji10) < (x3_1.length : Int)
          ·rw [if_pos c12] at H
           have c12b0 : decide ((ji10) < (x3_1.length : Int)) = true := decide_eq_true c12
           clear c12
           obtain ⟨y322, hy322⟩ : ∃ y_ : List ByteArray, y_ = (x3_1.set ((ji10) : Int).toNat (strOfNums ((l0.take (x5_1 : Int).toNat).drop (x4_1 : Int).toNat))) := ⟨_, rfl⟩
           replace H : (if y322.length < 8796093022208 then (sidingref13_Parts.l0 k1 l0 (y322 ++ [(⟨#[]⟩ : ByteArray)]) (wrap64 (x5_1 + 1)) (wrap64 (x5_1 + 1))) else (none)) = some r := by first | (rw [hy322]; with_reducible exact H) | (have H2_ := (Option.bind_some _ _).symm.trans H; rw [hy322]; with_reducible exact H2_) | (have H2_ := (Option.bind_some _ _).symm.trans H; with_reducible exact H2_) | with_reducible exact H | (rw [hy322]; exact H) | exact H
           have Ny322 := Aside0.mk hy322
           clear hy322
           by_cases c14 : y322.length < 8796093022208
           ·rw [if_pos c14] at H
            have LMc14 := Aside0.mk c14
            clear c14
            obtain ⟨y323, hy323⟩ : ∃ y_ : List ByteArray, y_ = (y322 ++ [(⟨#[]⟩ : ByteArray)]) := ⟨_, rfl⟩
            replace H : (sidingref13_Parts.l0 k1 l0 y323 (wrap64 (x5_1 + 1)) (wrap64 (x5_1 + 1))) = some r := by first | (rw [hy323]; with_reducible exact H) | (have H2_ := (Option.bind_some _ _).symm.trans H; rw [hy323]; with_reducible exact H2_) | (have H2_ := (Option.bind_some _ _).symm.trans H; with_reducible exact H2_) | with_reducible exact H | (rw [hy323]; exact H) | exact H
            have Ny323 := Aside0.mk hy323
            clear hy323
            have H' := Aside0.mk H
            clear H
            have p320 : 0 ≤ (x5_1 : Int) := of_decide_eq_true (by first | (with_reducible assumption) | assumption)
            have q320 : x5_1 < (l0.length : Int) := of_decide_eq_true (by first | (with_reducible assumption) | assumption)
            obtain ⟨ad320, e320, hx320_0⟩ := Kd.at_int HR0.out x5_1 p320 q320
            cases e320
            replace hx320_0 := (HB.out.cell (World.block_lt_of_cell? w _ hx320_0)).trans hx320_0
            replace p320 := eq_true p320
            replace q320 := eq_true q320
            obtain ⟨Ao15, co15, eo15⟩ := Kd.R_slice HO_3.out
            subst eo15
            obtain ⟨i016, hi016, _, hsz16, _⟩ := info_parts info5
            obtain ⟨A16, hcut16, hA16, hC16⟩ := print_mid_of (P := Try.prog) (Value.int .u8) 0 49 5 .i64 .i64 Try.underlying49 hi016 hsz16 (some ad320) c0 l0 x4_1 x5_1 (of_decide_eq_true (by first | (with_reducible assumption) | assumption)) (by first | omega | exact of_decide_eq_true (by first | (with_reducible assumption) | assumption)) (of_decide_eq_true (by first | (with_reducible assumption) | assumption)) HC0.out
            have HR321 := Aside0.mk (Kd.C_of_reads (h1 := fun _ => rfl) (hA16 _ (Kd.reads_of_C HR0.out)))
            have HC321 := Aside0.mk hC16
            clear hA16 hC16 hi016 hsz16
            have hcv17 := Kd.C_string (P := Try.prog) (A := A16) (c := (c0 - x4_1.toNat)) Try.underlying49 Try.underlying5 Try.underlying9 (Kd.C_below HR321.out HB.out)
            (try (have hcv17b := hcv17; rw [show (List.drop (x4_1 : Int).toNat (List.take (x5_1 : Int).toNat l0)).length = (x5_1 : Int).toNat - (x4_1 : Int).toNat from by rw [List.length_drop, List.length_take, Nat.min_eq_left (by have h_ : (x5_1 : Int) ≤ (l0.length : Int) := of_decide_eq_true (by first | (with_reducible assumption) | assumption); omega)]] at hcv17b))
            have p13 : 0 ≤ ((ji10) : Int) := of_decide_eq_true (by first | (with_reducible assumption) | assumption)
            have q13 : ((ji10) : Int) < ((x3_1.length : Int) : Int) := of_decide_eq_true (by first | (with_reducible assumption) | assumption)
            obtain ⟨go13, co13, eo13, gb13, gl13, cl13, HG13⟩ := Kd.R_form HO_3.out (by omega)
            (first | cases eo13 | (injection eo13 with ea_ en_ ec_; (first | subst ea_ | (injection ea_ with ea_; subst ea_)); subst ec_; clear en_))
            have GB13 := Aside0.mk gb13
            have GG13 := Aside0.mk HG13
            clear gb13 gl13 HG13
            obtain ⟨hx13_0, hf13_0⟩ := Kd.R_celln (⟨#[]⟩ : ByteArray) HO_3.out ((ji10) : Int) p13 q13
            replace p13 := eq_true p13
            replace q13 := eq_true q13
            have HP18 := Kd.R_putg HO_3.out ((ji10) : Int) (strOfNums ((l0.take (x5_1 : Int).toNat).drop (x4_1 : Int).toNat))
            go_wp2_with (first | ((with_reducible refine gate_store (t := 9) (p := 27) rfl ?_); refine store_event (t := 9) (p := 27) (v := ?vo_w19) (w1 := (wr.setCell ⟨go13, ((ji10) : Int).toNat, none⟩ (.string (strOfNums ((l0.take (x5_1 : Int).toNat).drop (x4_1 : Int).toNat))))) ?hg ?ho ?hn ?hr ?_; (case ho => rfl); (case hg => rfl); (case hn => rfl); (case hr => first | (go_simp; done) | (go_simp; rfl)); intro w19 hw; have hg : wr.grownBy w19 (some go13) := (by rw [hw]; exact HP18.2); have hp_ : Kd.R Kd.string 9 w19 w.heap.size (fun _ => True) (.slice (some ⟨go13, 0, none⟩) x3_1.length co15) y322 := (by rw [hw, Ny322.out]; exact HP18.1); clear HP18; have n0_ := Aside0.mk (hp_); have n1_ := Aside0.mk ((by rw [hw]; exact below_set (HB.out) GB13.out : Below w.heap.size w w19)); clear HO_3; clear HB; have HO_3 := n0_; have HB := n1_; clear n0_ n1_; clear hg hw hp_) | ((with_reducible refine gate_builtin (b := .append) (xs := #[.tmp 28, .tmp 29]) rfl ?_); at_builtin; refine Kd.R_append Kd.string (w0 := w) w.heap.size rfl (.tmp 28) (.tmp 29) 22 9 (.string ⟨#[]⟩) 16 rfl Try.underlying22 info9 rfl (by decide) (by omega) (.slice (some ⟨go13, 0, none⟩) x3_1.length co15) y322 (⟨#[]⟩ : ByteArray) [.string (⟨#[]⟩ : ByteArray)] (fun _ => True) (fun _ => False) rfl rfl ?aP (fun _ hk => hk.elim) ?aF ?aO ?aB ?aS ?aL ?_; (case aP => exact rfl); (case aB => exact (by repeat (first | (with_reducible first | exact HB.out | apply below_alloc | apply pw_below_drewN | apply below_drew1) | exact HB.out))); (case aF => exact (fun _ _ => trivial)); (case aO => exact (by (with_reducible repeat (first | apply Kd.R_alloc | apply Kd.R_drewN | apply Kd.R_drew)); exact HO_3.out)); (case aS => exact (below_size (by repeat (first | (with_reducible first | exact HB.out | apply below_alloc | apply pw_below_drewN | apply below_drew1) | exact HB.out)))); (case aL => have := LMc14.out; omega); intro v324 w20 ho hb hg hat; rw [← Ny323.out] at ho; have n0_ := Aside0.mk (hb); have n1_ := Aside0.mk (ho); clear HB; clear HO_3; have HB := n0_; have HO325 := n1_; clear n0_ n1_; clear ho hb hg hat))
            go_roundg k1
            case measure => have := HK1.out; omega
            case rel => exact ⟨(y323), (wrap64 (x5_1 + 1)), (wrap64 (x5_1 + 1)), (by first | rfl | (simp; done) | (simp [*]; done)), (by first | rfl | (simp; done) | (simp [*]; done)), H', ⟨by have := HK1.out; omega⟩, ⟨by (with_reducible repeat (first | apply Kd.R_alloc | apply Kd.R_drewN | apply Kd.R_drew)); exact HO325.out⟩, ⟨by repeat (first | (with_reducible first | exact HB.out | apply below_alloc | apply pw_below_drewN | apply below_drew1) | exact HB.out)⟩⟩
           ·rw [if_neg c14] at H
            exact absurd H (by simp)
          ·rw [if_neg c12] at H
           exact absurd H (by simp)
         ·rw [if_neg c11] at H
          exact absurd H (by simp)
        ·rw [if_neg c9] at H
         exact absurd H (by simp)
       ·rw [if_neg c8] at H
        exact absurd H (by simp)
      ·rw [if_neg c7] at H
       exact absurd H (by simp)
     ·rw [if_neg c6] at H
      have c6b0 : ((rd l0 x5_1) == 10) = false := beq_eq_false_iff_ne.mpr c6
      have c6b1 : ((rd l0 x5_1) != 10) = true := bne_iff_ne.mpr c6
      have H' := Aside0.mk H
      clear H
      have p320 : 0 ≤ (x5_1 : Int) := of_decide_eq_true (by first | (with_reducible assumption) | assumption)
      have q320 : x5_1 < (l0.length : Int) := of_decide_eq_true (by first | (with_reducible assumption) | assumption)
      obtain ⟨ad320, e320, hx320_0⟩ := Kd.at_int HR0.out x5_1 p320 q320
      cases e320
      replace hx320_0 := (HB.out.cell (World.block_lt_of_cell? w _ hx320_0)).trans hx320_0
      replace p320 := eq_true p320
      replace q320 := eq_true q320
      go_wp2
      go_roundg k1
      case measure => have := HK1.out; omega
      case rel => exact ⟨(x3_1), (x4_1), (wrap64 (x5_1 + 1)), (by first | rfl | (simp; done) | (simp [*]; done)), (by first | rfl | (simp; done) | (simp [*]; done)), H', ⟨by have := HK1.out; omega⟩, ⟨by (with_reducible repeat (first | apply Kd.R_alloc | apply Kd.R_drewN | apply Kd.R_drew)); exact HO_3.out⟩, ⟨by repeat (first | (with_reducible first | exact HB.out | apply below_alloc | apply pw_below_drewN | apply below_drew1) | exact HB.out)⟩⟩
    ·rw [if_neg c5] at H
     exact absurd H (by simp)
   ·rw [if_neg c4] at H
    have c4b0 : decide (x5_1 < (l0.length : Int)) = false := decide_eq_false c4
    clear c4
    by_cases c21 : 0 ≤ x4_1
    ·rw [if_pos c21] at H
     have c21b0 := eq_true c21
     have c21b1 : decide (0 ≤ x4_1) = true := decide_eq_true c21
     clear c21
     by_cases c22 : x4_1 ≤ (l0.length : Int)
     ·rw [if_pos c22] at H
      have c22b0 := eq_true c22
      have c22b1 : decide (x4_1 ≤ (l0.length : Int)) = true := decide_eq_true c22
      (try have c22m := Aside0.mk (Nat.min_eq_left (Int.toNat_le.2 c22)))
      clear c22
      obtain ⟨ji23, hji23⟩ : ∃ j_ : Int, (wrap64 ((x3_1.length : Int) - 1)) = j_ := ⟨_, rfl⟩
      replace H : (if 0 ≤ (ji23) then (if (ji23) < (x3_1.length : Int) then (some (x3_1.set ((ji23) : Int).toNat (strOfNums (l0.drop (x4_1 : Int).toNat)))) else (none)) else (none)) = some r := by first | (rw [hji23] at H; exact H) | (simp only [hji23] at H ⊢; exact H)
      have hji23w : (IntKind.i64.wrap ((x3_1.length : Int) - 1)) = ji23 := (i64_w _).trans hji23
      by_cases c24 : 0 ≤ (ji23)
      ·rw [if_pos c24] at H
       have c24b0 : decide (0 ≤ (ji23)) = true := decide_eq_true c24
       clear c24
       by_cases c25 : (ji23) < (x3_1.length : Int)
       ·rw [if_pos c25] at H
        have c25b0 : decide ((ji23) < (x3_1.length : Int)) = true := decide_eq_true c25
        clear c25
        obtain ⟨y327, hy327⟩ : ∃ y_ : List ByteArray, y_ = (x3_1.set ((ji23) : Int).toNat (strOfNums (l0.drop (x4_1 : Int).toNat))) := ⟨_, rfl⟩
        replace H : (some y327) = some r := by first | (rw [hy327]; with_reducible exact H) | (have H2_ := (Option.bind_some _ _).symm.trans H; rw [hy327]; with_reducible exact H2_) | (have H2_ := (Option.bind_some _ _).symm.trans H; with_reducible exact H2_) | with_reducible exact H | (rw [hy327]; exact H) | exact H
        have Ny327 := Aside0.mk hy327
        clear hy327
        obtain rfl := Option.some.inj H
        obtain ⟨Ao27, co27, eo27⟩ := Kd.R_slice HO_3.out
        subst eo27
        obtain ⟨i028, hi028, _, hsz28, _⟩ := info_parts info5
        obtain ⟨A28, hcut28, hA28, hC28⟩ := print_drop_of (P := Try.prog) (Value.int .u8) 0 49 5 .i64 Try.underlying49 hi028 hsz28 A0 c0 l0 x4_1 (of_decide_eq_true (by first | (with_reducible assumption) | assumption)) (of_decide_eq_true (by first | (with_reducible assumption) | assumption)) HC0.out
        have HR326 := Aside0.mk (Kd.C_of_reads (h1 := fun _ => rfl) (hA28 _ (Kd.reads_of_C HR0.out)))
        have HC326 := Aside0.mk hC28
        clear hA28 hC28 hi028 hsz28
        have hcv29 := Kd.C_string (P := Try.prog) (A := A28) (c := (c0 - x4_1.toNat)) Try.underlying49 Try.underlying5 Try.underlying9 (Kd.C_below HR326.out HB.out)
        (try (have hcv29b := hcv29; rw [show (List.drop (x4_1 : Int).toNat l0).length = l0.length - (x4_1 : Int).toNat from List.length_drop] at hcv29b))
        have p26 : 0 ≤ ((ji23) : Int) := of_decide_eq_true (by first | (with_reducible assumption) | assumption)
        have q26 : ((ji23) : Int) < ((x3_1.length : Int) : Int) := of_decide_eq_true (by first | (with_reducible assumption) | assumption)
        obtain ⟨go26, co26, eo26, gb26, gl26, cl26, HG26⟩ := Kd.R_form HO_3.out (by omega)
        (first | cases eo26 | (injection eo26 with ea_ en_ ec_; (first | subst ea_ | (injection ea_ with ea_; subst ea_)); subst ec_; clear en_))
        have GB26 := Aside0.mk gb26
        have GG26 := Aside0.mk HG26
        clear gb26 gl26 HG26
        obtain ⟨hx26_0, hf26_0⟩ := Kd.R_celln (⟨#[]⟩ : ByteArray) HO_3.out ((ji23) : Int) p26 q26
        replace p26 := eq_true p26
        replace q26 := eq_true q26
        have HP30 := Kd.R_putg HO_3.out ((ji23) : Int) (strOfNums (l0.drop (x4_1 : Int).toNat))
        go_wp2_with (first | ((with_reducible refine gate_store (t := 9) (p := 41) rfl ?_); refine store_event (t := 9) (p := 41) (v := ?vo_w31) (w1 := (wr.setCell ⟨go26, ((ji23) : Int).toNat, none⟩ (.string (strOfNums (l0.drop (x4_1 : Int).toNat))))) ?hg ?ho ?hn ?hr ?_; (case ho => rfl); (case hg => rfl); (case hn => rfl); (case hr => first | (go_simp; done) | (go_simp; rfl)); intro w31 hw; have hg : wr.grownBy w31 (some go26) := (by rw [hw]; exact HP30.2); have hp_ : Kd.R Kd.string 9 w31 w.heap.size (fun _ => True) (.slice (some ⟨go26, 0, none⟩) x3_1.length co27) y327 := (by rw [hw, Ny327.out]; exact HP30.1); clear HP30; have n0_ := Aside0.mk (hp_); have n1_ := Aside0.mk ((by rw [hw]; exact below_set (HB.out) GB26.out : Below w.heap.size w w31)); clear HO_3; clear HB; have HO_3 := n0_; have HB := n1_; clear n0_ n1_; clear hg hw hp_))
        go_ret
        exact ⟨_, by first | rfl | (simp [errW_none, errW_some] <;> rfl) | (simp only [← hji23]; first | rfl | (simp [errW_none, errW_some] <;> rfl)) | (simp [*, errW_none, errW_some] <;> rfl), by (with_reducible repeat (first | apply Kd.R_alloc | apply Kd.R_drewN | apply Kd.R_drew)); exact HO_3.out, by repeat (first | (with_reducible first | exact HB.out | apply below_alloc | apply pw_below_drewN | apply below_drew1) | exact HB.out)⟩
       ·rw [if_neg c25] at H
        exact absurd H (by simp)
      ·rw [if_neg c24] at H
       exact absurd H (by simp)
     ·rw [if_neg c22] at H
      exact absurd H (by simp)
    ·rw [if_neg c21] at H
     exact absurd H (by simp)
end Go.Proofs.Ytmgbbmjfjnhmiaa.Pr
end
section
namespace Go.Proofs.Ytmgbbmjfjnhmiaa.Pr
open Go.RowKit Go.Proofs.YtmgbbmjfjnhmiaaW.PrintWords Go.Proofs.YtmgbbmjfjnhmiaaW.PrintLast Go.Proofs.YtmgbbmjfjnhmiaaW.PrintMore
def partsOf : List Int → List Int → List (List Int)
 | cur, [] => [cur]
 | cur, b :: l => if b = 10 then cur :: partsOf [] l else partsOf (cur ++ [b]) l
theorem partsOf_length (l : List Int) : ∀ cur, (partsOf cur l).length = l.count 10 + 1 := by
 induction l with
 | nil => intro cur; rfl
 | cons b l ih =>
  intro cur
  by_cases h : b = 10
  ·subst h
   simp [partsOf, ih]
  ·simp [partsOf, ih, h]
theorem parts_loop (l : List Int) (hl : l.length ≤ 8796093000000) : ∀ (d i f : Nat) (done : List ByteArray) (z : ByteArray), i + d = l.length → f ≤ i → done.length ≤ i →
  Ev (fun k => sidingref13_Parts.l0 k l (done ++ [z]) (f : Int) (i : Int)) (done ++ (partsOf ((l.take i).drop f) (l.drop i)).map strOfNums) := by
 intro d
 induction d with
 | zero =>
  intro i f done z hi hf hd
  obtain rfl : i = l.length := by omega
  refine Ev.step (fun k => by rw [sidingref13_Parts.l0]) ?_
  refine Ev.neg (by omega) (Ev.pos (by omega) (Ev.pos (by omega) ?_))
  have hlen : (done ++ [z]).length = done.length + 1 := by simp
  rw [hlen, w64 (by omega)]
  refine Ev.pos (by omega) (Ev.pos (by omega) (Ev.rt ?_))
  have e : ((((done.length + 1 : Nat) : Int) - 1).toNat) = done.length := by omega
  rw [e, List.set_append_right _ _ (Nat.le_refl _)]
  simp [partsOf]
 | succ d ih =>
  intro i f done z hi hf hd
  have hlt : i < l.length := by omega
  refine Ev.step (fun k => by rw [sidingref13_Parts.l0]) ?_
  refine Ev.pos (by omega) (Ev.pos (by omega) ?_)
  rw [rd_at l i hlt, w64 (x := (i : Int) + 1) (by omega)]
  have ht : (l.take (i + 1)).drop f = (l.take i).drop f ++ [l[i]] := by
   rw [take_succ_at l i hlt, List.drop_append_of_le_length (by rw [List.length_take]; omega)]
  by_cases hb : l[i] = 10
  ·refine Ev.pos hb ?_
   refine Ev.pos (by omega) (Ev.pos (by omega) (Ev.pos (by omega) ?_))
   have hlen : (done ++ [z]).length = done.length + 1 := by simp
   rw [hlen, w64 (x := ((done.length + 1 : Nat) : Int) - 1) (by omega)]
   refine Ev.pos (by omega) (Ev.pos (by omega) (Ev.bs ?_))
   have e : ((((done.length + 1 : Nat) : Int) - 1).toNat) = done.length := by omega
   rw [e, List.set_append_right _ _ (Nat.le_refl _)]
   refine Ev.pos (by simp; omega) ?_
   have h := ih (i + 1) (i + 1) (done ++ [strOfNums ((l.take i).drop f)]) ⟨#[]⟩ (by omega) (Nat.le_refl _) (by simp; omega)
   have e2 : (l.take (i + 1)).drop (i + 1) = [] := List.drop_eq_nil_of_le (by rw [List.length_take]; omega)
   rw [e2] at h
   refine Ev.eq ?_ (by simpa using h)
   rw [drop_at l i hlt]
   simp [partsOf, hb]
  ·refine Ev.neg hb ?_
   have h := ih (i + 1) f done z (by omega) (by omega) (by omega)
   rw [ht] at h
   refine Ev.eq ?_ (by simpa using h)
   rw [drop_at l i hlt]
   simp [partsOf, hb]
theorem parts_ev (l : List Int) (hl : l.length ≤ 8796093000000) : Ev (fun k => sidingref13_Parts.f k l) ((partsOf [] l).map strOfNums) := by
 unfold sidingref13_Parts.f
 have h := parts_loop l hl l.length 0 0 [] ⟨#[]⟩ (by omega) (Nat.le_refl _) (Nat.le_refl _)
 simpa using h
theorem feedy_count (s : ByteArray) : feedy s = decide (0 < (bytesOf s).count 10) := by
 unfold feedy bytesOf
 generalize s.data.toList = l
 rw [Bool.eq_iff_iff, decide_eq_true_iff, decide_eq_true_iff]
 induction l with
 | nil => simp [Go.Lib.indexByte]
 | cons b l ih =>
  by_cases h : b = 10
  ·subst h
   simp [Go.Lib.indexByte]
  ·have h2 : ¬ ((b.toNat : Int) = 10) := by
    intro h3
    apply h
    apply UInt8.toNat_inj.1
    have : b.toNat = 10 := by omega
    rw [this]
    rfl
   have h1 : (b == 10) = false := by simpa using h
   simp only [Go.Lib.indexByte, h1, List.map_cons, List.count_cons]
   rw [if_neg (by simp)]
   have h3 : (((b.toNat : Int)) == 10) = false := by simpa using h2
   rw [h3]
   by_cases h4 : Go.Lib.indexByte l 10 = -1
   ·rw [h4]
    simp only [beq_self_eq_true, if_true]
    rw [h4] at ih
    simpa using ih
   ·have h5 : (Go.Lib.indexByte l 10 == -1) = false := by simpa using h4
    rw [h5, if_neg (by simp)]
    have h6 : 0 ≤ Go.Lib.indexByte l 10 + 1 ↔ 0 ≤ Go.Lib.indexByte l 10 := by
     constructor
     ·intro h7
      have := Go.Lib.indexByte l 10
      omega
     ·intro h7
      omega
    simpa [h6] using ih
end Go.Proofs.Ytmgbbmjfjnhmiaa.Pr
end
section
namespace Go.Proofs.Ytmgbbmjfjnhmiaa.Pr
open Go.RowKit Go.Proofs.YtmgbbmjfjnhmiaaW.PrintWords Go.Proofs.YtmgbbmjfjnhmiaaW.PrintLast Go.Proofs.YtmgbbmjfjnhmiaaW.PrintMore
def ref13_Feed.f (l0 : List ByteArray) : Option (Bool) := if (l0.all fun s => decide (s.size ≤ 8796093000000)) = true then some (l0.any feedy) else none
theorem feed_parts (s : ByteArray) : decide (((((partsOf [] (bytesOf s)).map strOfNums).length : Nat) : Int) > 1) = feedy s := by
 rw [feedy_count, List.length_map, partsOf_length, Bool.eq_iff_iff, decide_eq_true_iff, decide_eq_true_iff]
 omega
set_option maxHeartbeats 2000000 in
theorem ref13_Feed.calls (A0 : Option Addr) (c0 : Nat) (l0 : List ByteArray) (r : Bool) (w : World) (hr0 : Kd.C Kd.string w A0 l0.length l0) (hc0 : l0.length ≤ c0) (h : ref13_Feed.f l0 = some r) :
  Calls Try.prog 34 #[.slice A0 l0.length c0] w fun e w' => e = .returned (.bool r) ∧ Below w.heap.size w w' := by
 unfold ref13_Feed.f at h
 split at h
 ·rename_i hsm
  have hsz : ∀ s ∈ l0, s.size ≤ 8796093000000 := fun s hs => of_decide_eq_true (List.all_eq_true.1 hsm s hs)
  obtain rfl : l0.any feedy = r := by injection h
  clear h hsm
  have hbig : l0.length ≤ 9223372036854775807 := hr0.2.1
  have HSZ := Aside0.mk hsz
  have HR0 := Aside0.mk hr0
  clear hsz hr0
  go_enter Try.func34, Try.ntmps34
  go_wp2
  go_loopg [3] l0.length (fun gg s3 wr => ∃ kk : Nat, kk ≤ l0.length ∧ l0.length - kk ≤ gg ∧ s3 = .int .i64 kk ∧ Aside0 (Below w.heap.size w wr) ∧ Aside0 (∀ j (hj : j < l0.length), j < kk → feedy (l0[j]'hj) = false))
  case atStart => exact ⟨0, Nat.zero_le _, by omega, rfl, ⟨Below.refl _ _⟩, ⟨fun j _ hj => absurd hj (Nat.not_lt_zero _)⟩⟩
  case round =>
   obtain ⟨kk, hkk, hg, rfl, HB, HN⟩ := hrel
   by_cases hlt : kk < l0.length
   ·have hltz : (kk : Int) < (l0.length : Int) := by omega
    obtain ⟨ad, rfl, hcell⟩ := Kd.at_string (Kd.C_below HR0.out HB.out) (kk : Int) (by omega) (by omega)
    simp only [Int.toNat_natCast] at hcell
    have hy0 : rdOf ByteArray.empty l0 (kk : Int) = l0[kk] := by simp [rdOf, hlt]
    rw [hy0] at hcell
    obtain ⟨y, hy⟩ : ∃ y, y = l0[kk] := ⟨_, rfl⟩
    rw [← hy] at hcell
    have hys : y.size ≤ 8796093000000 := by rw [hy]; exact HSZ.out _ (List.getElem_mem hlt)
    have HYS := Aside0.mk hys
    have HY := Aside0.mk hy
    have hbl : (bytesOf y).length = y.size := bytesOf_length y
    obtain ⟨k, hk⟩ := (parts_ev (bytesOf y) (by rw [hbl]; exact hys)).rounds
    have hfp := feed_parts y
    obtain ⟨ps, eps⟩ : ∃ ps, ps = (partsOf [] (bytesOf y)).map strOfNums := ⟨_, rfl⟩
    rw [← eps] at hk hfp
    have HK := Aside0.mk hk
    have HF := Aside0.mk hfp
    have HBL := Aside0.mk hbl
    clear hk hfp eps hy hy0 hys hbl
    obtain ⟨pl, hpl⟩ : ∃ n, n = ps.length := ⟨_, rfl⟩
    have HPL := Aside0.mk hpl
    clear hpl
    have kb := fun W => print_bytes (P := Try.prog) 9 49 5 Try.underlying9 Try.underlying49 Try.underlying5 y W
    have hC : ∀ W : World, Calls Try.prog 42 #[.slice (some ⟨W.heap.size, 0, none⟩) y.size (grownCap W y.size 0 5)] (Lib.bytesWorld W 5 y) fun e w' => ∃ (A : Option Addr) (c : Nat), e = .returned (.slice A pl c) ∧ Below W.heap.size W w' := by
     intro W
     have h := sidingref13_Parts.calls k (some ⟨W.heap.size, 0, none⟩) (grownCap W y.size 0 5) (bytesOf y) ps (Lib.bytesWorld W 5 y) (by rw [HBL.out]; exact bytes_C W 5 y (by have := HYS.out; omega)) (by rw [HBL.out]; exact grownCap_ge _ _ _ _) HK.out
     rw [HBL.out] at h
     refine h.mono ?_
     rintro e w' ⟨v, rfl, hR, hb⟩
     obtain ⟨A, c, rfl⟩ := Kd.R_slice hR
     refine ⟨A, c, by rw [HPL.out], ?_⟩
     have hs : (Lib.bytesWorld W 5 y).heap.size = W.heap.size + 1 := Lib.bytesWorld_size W 5 y
     exact below_then (bytes_below (Below.refl W.heap.size W) (Nat.le_refl _) 5 y) (by omega) hb
    have HF' : decide ((pl : Int) > 1) = feedy y := by rw [HPL.out]; exact HF.out
    have HF2 := Aside0.mk HF'
    clear HF' HF
    by_cases h1 : 1 < pl
    ·have h1i : (1 : Int) < (pl : Int) := by omega
     go_wp2_with (go_at_call 42; refine (hC _).mono ?_; rintro e w' ⟨A, c, rfl, hb⟩; have HB1 := Aside0.mk hb; clear hb)
     go_ret
     refine ⟨?_, below_then HB.out (Below.size HB.out) HB1.out⟩
     have : l0.any feedy = true := List.any_eq_true.2 ⟨y, by rw [HY.out]; exact List.getElem_mem hlt, by rw [← HF2.out]; exact decide_eq_true h1i⟩
     rw [this]
     rfl
    ·have h1i : ¬ (1 : Int) < (pl : Int) := by omega
     go_wp2_with (go_at_call 42; refine (hC _).mono ?_; rintro e w' ⟨A, c, rfl, hb⟩; have HB1 := Aside0.mk hb; clear hb)
     go_roundg (l0.length - (kk + 1))
     case measure => omega
     case rel =>
      refine ⟨kk + 1, by omega, by omega, by go_num, ⟨below_then HB.out (Below.size HB.out) HB1.out⟩, ⟨fun j hjl hj => ?_⟩⟩
      by_cases e : j = kk
      ·subst e
       rw [← HY.out, ← HF2.out]
       exact decide_eq_false (by omega)
      ·exact HN.out j hjl (by omega)
   ·have hltz : ¬ (kk : Int) < (l0.length : Int) := by omega
    have hk : kk = l0.length := by omega
    have HK := Aside0.mk hk
    clear hk
    go_wp2
    go_ret
    refine ⟨?_, HB.out⟩
    have : l0.any feedy = false := by
     rw [List.any_eq_false]
     intro s hs
     obtain ⟨j, hj, rfl⟩ := List.mem_iff_getElem.1 hs
     rw [HN.out j hj (by rw [HK.out]; exact hj)]
     simp
    rw [this]
    rfl
 ·cases h
end Go.Proofs.Ytmgbbmjfjnhmiaa.Pr
end
