/- Part 4 of the proof of MarkDoes: texts put together. -/
import Derived.Test.YtpklfaglenkdaaaDoorJMarkDoes1
import Derived.Test.YtpklfaglenkdaaaDoorJMarkDoes3
import Derived.Test.YtpklfaglenkdaaaDoorProg
import Derived.Below
import Derived.Deep.Draws
import Derived.Deep.AppendLies
import Derived.Maps.AppendAt
import Derived.OwnWalk
import Derived.Laws.BytesArg
import Derived.Laws.MakeOwn
import Derived.Laws.OwnMore
import Derived.Deep.OwnRows
import Derived.Tactics
import Derived.Lib.ConvBytes
import Derived.Laws.Slices
import Derived.WalkKit
import Derived.KernelRfl
import Derived.RowKit3
import Derived.Deep.LoopGhost
import Derived.Deep.QuietTactic
import Derived.BigQuiet
import Derived.WideLaws
import Derived.Deep.DeepCutAuto
import Derived.Deep.CutBlock
import Derived.Deep.RegionHeld3
import Derived.Laws.Rows
import Derived.Lib.AppendStr
import Derived.ArgAppend
import Derived.Laws.IdiomCopy
import Derived.OrdersHeld
import Derived.Laws.BitsLemmas
import Derived.RowKit
import Derived.WideShapes
import Derived.Shelf.Strings.Builder1
import Derived.Shelf.Strings.Builder2
import Derived.Shelf.Strings.OnBuilder
import Derived.Shelf.Strings.Trim
import Derived.Shelf.Small.Utf8
import Derived.Shelf.Small.Strs
import Derived.Shelf.Strings.BuilderF
import Derived.Shelf.Strings.BuilderK
import Derived.Shelf.Strings.Search1
import Derived.Shelf.Strings.Prefix
import Derived.Shelf.Strings.Runes
import Derived.Shelf.Strings.AsciiSet
import Derived.Shelf.Bits.Mul64
import Derived.Shelf.Unicode.DecodeSlow
import Derived.Shelf.Slices.Turned
import Derived.Shelf.Slices.Equal
import Derived.Ground.Names2Prog
import Derived.Shelf.Slices.Clone
import Derived.Shelf.Slices.Empties2
set_option linter.unusedVariables false
set_option linter.unusedSimpArgs false
section
namespace Go.Proofs.YtpklfaglenkdaaaDoor.Pr
open Go.RowKit Go.Proofs.YtpklfaglenkdaaaDoorW.PrintWords Go.Proofs.YtpklfaglenkdaaaDoorW.PrintLast Go.Proofs.YtpklfaglenkdaaaDoorW.PrintMore
attribute [local go_sem] max2_int min2_int max_two min_two max_three min_three max_four min_four   
def errW : Option Int → Value
 | none => .nilIface
 | some c => .iface 0 (.int .i64 c)
theorem errW_none : errW none = .nilIface := rfl
theorem errW_some (c : Int) : errW (some c) = .iface 0 (.int .i64 c) := rfl
theorem info5 : (Tryd.prog.info? 5).map (fun i => (i.zero, i.size, i.bytes)) = some (some (.int .u8 0), 1, 1) := by kernel_rfl
theorem info9 : (Tryd.prog.info? 9).map (fun i => (i.zero, i.size, i.bytes)) = some (some (.string ⟨#[]⟩), 1, 16) := by kernel_rfl
theorem info43 : (Tryd.prog.info? 43).map (fun i => (i.zero, i.size, i.bytes)) = some (some (.agg #[(.int .u8 0), (.slice none 0 0), (.slice none 0 0), (.slice none 0 0)]), 4, 80) := by kernel_rfl
structure S43 where
 f0 : Int
 f1 : (List ByteArray)
 f2 : (List ByteArray)
 f3 : (List ByteArray)
def z43 : S43 := ⟨(0 : Int), ([] : List ByteArray), ([] : List ByteArray), ([] : List ByteArray)⟩
def k43 : Kd S43 := Kd.iso (Kd.pair (Kd.int .u8) (Kd.pair (Kd.slice 9 Kd.string) (Kd.pair (Kd.slice 9 Kd.string) (Kd.slice 9 Kd.string)))) (fun x : S43 => (x.f0, x.f1, x.f2, x.f3))
theorem k43_heap : Kd.Heap k43 := Kd.heap_iso _ (Kd.heap_pair (Kd.heap_int .u8) (Kd.heap_pair (Kd.heap_slice 9 Kd.heap_string) (Kd.heap_pair (Kd.heap_slice 9 Kd.heap_string) (Kd.heap_slice 9 Kd.heap_string))))
theorem k43_open {w : World} {x : S43} {cs : List Value} (h : k43.K w x cs) : ∃ A1 c1 A2 c2 A3 c3, cs = [.int .u8 x.f0, .slice A1 x.f1.length c1, .slice A2 x.f2.length c2, .slice A3 x.f3.length c3] ∧ x.f1.length ≤ c1 ∧ Kd.string.C w A1 x.f1.length x.f1 ∧ x.f2.length ≤ c2 ∧ Kd.string.C w A2 x.f2.length x.f2 ∧ x.f3.length ≤ c3 ∧ Kd.string.C w A3 x.f3.length x.f3 := by
 obtain ⟨_, _, rfl, rfl, ⟨_, _, rfl, ⟨A1, c1, rfl, l1, g1⟩, ⟨_, _, rfl, ⟨A2, c2, rfl, l2, g2⟩, ⟨A3, c3, rfl, l3, g3⟩⟩⟩⟩ := h
 exact ⟨A1, c1, A2, c2, A3, c3, rfl, l1, g1, l2, g2, l3, g3⟩
theorem k43_mkM (w : World) (base : Nat) (ok : Nat → Prop) (x : S43) {v1 : Value} (g1 : Kd.string.R 9 w base ok v1 x.f1) {v2 : Value} (g2 : Kd.string.R 9 w base ok v2 x.f2) {v3 : Value} (g3 : Kd.string.R 9 w base ok v3 x.f3) : k43.M w base ok x [.int .u8 x.f0, v1, v2, v3] := ⟨[.int .u8 x.f0], [v1, v2, v3], rfl, rfl, ⟨[v1], [v2, v3], rfl, ⟨v1, rfl, g1⟩, ⟨[v2], [v3], rfl, ⟨v2, rfl, g2⟩, ⟨v3, rfl, g3⟩⟩⟩⟩
theorem k43_openF {W : World} {ok : Nat → Prop} {x : S43} {cs : List Value} (h : Kd.FK k43 W ok x cs) : ∃ A1 c1 A2 c2 A3 c3, cs = [.int .u8 x.f0, .slice A1 x.f1.length c1, .slice A2 x.f2.length c2, .slice A3 x.f3.length c3] ∧ x.f1.length ≤ c1 ∧ Kd.F Kd.string W ok A1 x.f1.length x.f1 ∧ x.f2.length ≤ c2 ∧ Kd.F Kd.string W ok A2 x.f2.length x.f2 ∧ x.f3.length ≤ c3 ∧ Kd.F Kd.string W ok A3 x.f3.length x.f3 := by
 obtain ⟨A1, c1, A2, c2, A3, c3, rfl, l1, _, l2, _, l3, _⟩ := k43_open (Kd.FK_now h)
 exact ⟨A1, c1, A2, c2, A3, c3, rfl, l1, (fun W' hW => by obtain ⟨A1_, c1_, A2_, c2_, A3_, c3_, he, l1_, g1_, l2_, g2_, l3_, g3_⟩ := k43_open (h W' hW); injection (Option.some.inj (show some (Value.slice A1 x.f1.length c1) = some (Value.slice A1_ x.f1.length c1_) from congrArg (fun l => l[1]?) he)) with ha_ _ _; rw [ha_]; exact g1_), l2, (fun W' hW => by obtain ⟨A1_, c1_, A2_, c2_, A3_, c3_, he, l1_, g1_, l2_, g2_, l3_, g3_⟩ := k43_open (h W' hW); injection (Option.some.inj (show some (Value.slice A2 x.f2.length c2) = some (Value.slice A2_ x.f2.length c2_) from congrArg (fun l => l[2]?) he)) with ha_ _ _; rw [ha_]; exact g2_), l3, (fun W' hW => by obtain ⟨A1_, c1_, A2_, c2_, A3_, c3_, he, l1_, g1_, l2_, g2_, l3_, g3_⟩ := k43_open (h W' hW); injection (Option.some.inj (show some (Value.slice A3 x.f3.length c3) = some (Value.slice A3_ x.f3.length c3_) from congrArg (fun l => l[3]?) he)) with ha_ _ _; rw [ha_]; exact g3_)⟩
def rd_T43 (xs : List S43) (i : Int) : S43 := xs.getD i.toNat z43
theorem at_T43 {w : World} {A : Option Addr} {n : Nat} {xs : List S43} (h : Kd.C k43 w A n xs) (i : Int) (h0 : 0 ≤ i) (h1 : i < n) : ∃ ad A1 c1 A2 c2 A3 c3, A = some ad ∧ w.cell? (ad.add (i.toNat * 4)) = some (.int .u8 (rd_T43 xs i).f0) ∧ w.cell? ⟨(ad.add (i.toNat * 4)).block, (ad.add (i.toNat * 4)).off + 1, none⟩ = some (.slice A1 (rd_T43 xs i).f1.length c1) ∧ w.cell? ⟨(ad.add (i.toNat * 4)).block, (ad.add (i.toNat * 4)).off + 2, none⟩ = some (.slice A2 (rd_T43 xs i).f2.length c2) ∧ w.cell? ⟨(ad.add (i.toNat * 4)).block, (ad.add (i.toNat * 4)).off + 3, none⟩ = some (.slice A3 (rd_T43 xs i).f3.length c3) ∧ (rd_T43 xs i).f1.length ≤ c1 ∧ Kd.string.C w A1 (rd_T43 xs i).f1.length (rd_T43 xs i).f1 ∧ (rd_T43 xs i).f2.length ≤ c2 ∧ Kd.string.C w A2 (rd_T43 xs i).f2.length (rd_T43 xs i).f2 ∧ (rd_T43 xs i).f3.length ≤ c3 ∧ Kd.string.C w A3 (rd_T43 xs i).f3.length (rd_T43 xs i).f3 := by
 obtain ⟨ad, c, e, _, hK, hc0⟩ := Kd.C_get h z43 i h0 h1
 have hc : ∀ j u, c[j]? = some u → w.cell? (ad.add (i.toNat * 4 + j)) = some u := hc0
 obtain ⟨A1, c1, A2, c2, A3, c3, rfl, l1, g1, l2, g2, l3, g3⟩ := k43_open hK
 exact ⟨ad, A1, c1, A2, c2, A3, c3, e, hc 0 _ rfl, by rw [← add_field _ _ 1 (by omega)]; exact hc 1 _ rfl, by rw [← add_field _ _ 2 (by omega)]; exact hc 2 _ rfl, by rw [← add_field _ _ 3 (by omega)]; exact hc 3 _ rfl, l1, g1, l2, g2, l3, g3⟩
end Go.Proofs.YtpklfaglenkdaaaDoor.Pr
end
section
namespace Go.Proofs.YtpklfaglenkdaaaDoor.Pr
open Go.RowKit Go.Proofs.YtpklfaglenkdaaaDoorW.PrintWords Go.Proofs.YtpklfaglenkdaaaDoorW.PrintLast Go.Proofs.YtpklfaglenkdaaaDoorW.PrintMore
attribute [local go_sem] i64_w i32_w max2_int min2_int max_two min_two
section
variable {P : Program} {ops : Array Oper} {Q : Exit → Act → World → Prop} {md : Region.Mode} {S : World → Prop} {ds : List Nat}
theorem pu (i n : Nat) {oi : Oper} {v : Value} {fuel : Nat} {l : Array Bool} {a : Act} {w : World} (l' : Array Bool) (hi : ops[i]? = some oi) (hN : oi.dst = some n) (hc : anyB md ops l l' i = true) {a' : Act}
  (h : wpAnyLast P md ops Q S ds fuel l' a' w) (hw : Region.wanted oi (yielded ops a.tmps) = true := by rfl) (hv : ∀ w, (execOp a.eval oi).run P w = .ok (.value v) w := by (intro w'; go_simp; with_reducible rfl))
  (ha : a.put (some n) v = a' := by (go_simp; rfl)) (hQ : ∀ c a w, Q (.panic c) (a.put oi.dst v) w → Q (.panic c) a w := by exact fun _ _ _ h => h) : wpAnyLast P md ops Q S ds (fuel + 1) l a w :=
 pure_ l' hi hN hc hQ (Or.inl ⟨hw, hv⟩) ha h
theorem po (i n : Nat) {oi : Oper} {fuel : Nat} {l : Array Bool} {a : Act} {w : World} (l' : Array Bool) (hi : ops[i]? = some oi) (hN : oi.dst = some n) (hc : anyB md ops l l' i = true) {a' : Act}
  (h : wpAnyLast P md ops Q S ds fuel l' a' w) (hw : Region.wanted oi (yielded ops a.tmps) = false := by rfl)
  (ha : a.put (some n) undef = a' := by (go_simp; rfl)) (hQ : ∀ c a w, Q (.panic c) (a.put oi.dst undef) w → Q (.panic c) a w := by exact fun _ _ _ h => h) : wpAnyLast P md ops Q S ds (fuel + 1) l a w :=
 pure_ l' hi hN hc hQ (Or.inr ⟨hw, rfl⟩) ha h
end
end Go.Proofs.YtpklfaglenkdaaaDoor.Pr
end
section
namespace Go.Proofs.YtpklfaglenkdaaaDoor.Pr
open Go.RowKit Go.Proofs.YtpklfaglenkdaaaDoorW.PrintWords Go.Proofs.YtpklfaglenkdaaaDoorW.PrintLast Go.Proofs.YtpklfaglenkdaaaDoorW.PrintMore
theorem Ev.pos {α : Type} {c : Prop} [Decidable c] {A B : Nat → Option α} {r : α} (h : c) (k : Ev A r) : Ev (fun n => if c then A n else B n) r := Ev.congr (fun _ => if_pos h) k
theorem Ev.neg {α : Type} {c : Prop} [Decidable c] {A B : Nat → Option α} {r : α} (h : ¬ c) (k : Ev B r) : Ev (fun n => if c then A n else B n) r := Ev.congr (fun _ => if_neg h) k
theorem Ev.bd {α β : Type} {g : Nat → Option α} {f : Nat → α → Option β} {a : α} {r : β} (h : Ev g a) (k : Ev (fun n => f n a) r) : Ev (fun n => (g n).bind fun t => f n t) r := Ev.bind h k
theorem Ev.bs {α β : Type} {f : Nat → α → Option β} {a : α} {r : β} (k : Ev (fun n => f n a) r) : Ev (fun n => (some a).bind fun t => f n t) r := k
theorem Ev.bc {α β : Type} {g : Option α} {f : Nat → α → Option β} {a : α} {r : β} (h : g = some a) (k : Ev (fun n => f n a) r) : Ev (fun n => g.bind fun t => f n t) r := by
 subst h
 exact k
theorem Ev.rt {α : Type} {a r : α} (h : a = r) : Ev (fun _ => some a) r := by
 subst h
 exact Ev.now a
theorem Ev.eq {α : Type} {g : Nat → Option α} {a r : α} (h : a = r) (k : Ev g a) : Ev g r := h ▸ k
theorem w64 {x : Int} (h : -9223372036854775808 ≤ x ∧ x ≤ 9223372036854775807) : wrap64 x = x := by
 unfold wrap64
 omega
theorem toList_inj {a b : ByteArray} : a.toList = b.toList ↔ a = b := by
 constructor
 ·intro h
  rw [ByteArray.toList_eq, ByteArray.toList_eq] at h
  exact Go.WideShapes.bytes_inj h
 ·intro h
  rw [h]
theorem rdOf_at {α : Type} (d : α) (l : List α) (i : Nat) (h : i < l.length) : rdOf d l (i : Int) = l[i] := by
 simp [rdOf, h]
theorem rd_at (l : List Int) (i : Nat) (h : i < l.length) : rd l (i : Int) = l[i] := by
 simp [rd, h]
theorem take_succ_at {α : Type} (l : List α) (i : Nat) (h : i < l.length) : l.take (i + 1) = l.take i ++ [l[i]] := by
 rw [List.take_succ_eq_append_getElem h]
theorem drop_at {α : Type} (l : List α) (i : Nat) (h : i < l.length) : l.drop i = l[i] :: l.drop (i + 1) := List.drop_eq_getElem_cons h
end Go.Proofs.YtpklfaglenkdaaaDoor.Pr
end
section
namespace Go.Proofs
open Go.Shelf
def Tryd.lays156_ren : Go.Shelf.Ren := ⟨fun | 156 => 56 | 165 => 74 | 166 => 75 | 169 => 76 | 240 => 86 | 241 => 87 | 276 => 95 | 277 => 96 | n => n, fun | 31 => 23 | 9 => 9 | 3 => 3 | 4 => 4 | 0 => 0 | 20 => 20 | 72 => 100 | 76 => 104 | 70 => 98 | 37 => 24 | 75 => 103 | 127 => 118 | 164 => 127 | 5 => 5 | 80 => 106 | n => n, fun | n => n⟩
theorem Tryd.lays156 : Go.Proofs.Lays.n156 Tryd.prog Tryd.lays156_ren := {
 mixed := by kernel_rfl
 f156 := Tryd.func56.trans (congrArg some (by kernel_rfl))
 f165 := Tryd.func74.trans (congrArg some (by kernel_rfl))
 f166 := Tryd.func75.trans (congrArg some (by kernel_rfl))
 f169 := Tryd.func76.trans (congrArg some (by kernel_rfl))
 f240 := Tryd.func86.trans (congrArg some (by kernel_rfl))
 f241 := Tryd.func87.trans (congrArg some (by kernel_rfl))
 f276 := Tryd.func95.trans (congrArg some (by kernel_rfl))
 f277 := Tryd.func96.trans (congrArg some (by kernel_rfl))
 t0 := Tryd.underlying0
 a0 := Tryd.isAgg0
 z0 := Tryd.sizeOf0
 v0 := Tryd.zeroValue0
 t3 := Tryd.underlying3
 a3 := Tryd.isAgg3
 z3 := Tryd.sizeOf3
 v3 := Tryd.zeroValue3
 t4 := Tryd.underlying4
 a4 := Tryd.isAgg4
 z4 := Tryd.sizeOf4
 v4 := Tryd.zeroValue4
 t9 := Tryd.underlying9
 a9 := Tryd.isAgg9
 z9 := Tryd.sizeOf9
 v9 := Tryd.zeroValue9
 t20 := Tryd.underlying20
 a20 := Tryd.isAgg20
 z20 := Tryd.sizeOf20
 v20 := Tryd.zeroValue20
 t31 := Tryd.underlying23
 a31 := Tryd.isAgg23
 z31 := Tryd.sizeOf23
 v31 := Tryd.zeroValue23
 t37 := Tryd.underlying24
 a37 := Tryd.isAgg24
 z37 := Tryd.sizeOf24
 v37 := Tryd.zeroValue24
 t70 := Tryd.underlying98
 a70 := Tryd.isAgg98
 z70 := Tryd.sizeOf98
 v70 := Tryd.zeroValue98
 t72 := Tryd.underlying100
 a72 := Tryd.isAgg100
 z72 := Tryd.sizeOf100
 v72 := Tryd.zeroValue100
 t75 := Tryd.underlying103
 a75 := Tryd.isAgg103
 z75 := Tryd.sizeOf103
 v75 := Tryd.zeroValue103
 t76 := Tryd.underlying104
 a76 := Tryd.isAgg104
 z76 := Tryd.sizeOf104
 v76 := Tryd.zeroValue104
 t127 := Tryd.underlying118
 a127 := Tryd.isAgg118
 z127 := Tryd.sizeOf118
 v127 := Tryd.zeroValue118
 t164 := Tryd.underlying127
 a164 := Tryd.isAgg127
 z164 := Tryd.sizeOf127
 v164 := Tryd.zeroValue127 }
theorem Tryd.Builder_Extra_156 : Builder.Extra Tryd.prog Tryd.lays156_ren := {
 sizeBuilder := by kernel_rfl
 liesBuilder := by kernel_rfl
 t5 := Tryd.underlying5
 a5 := Tryd.isAgg5
 z5 := Tryd.sizeOf5
 v5 := Tryd.zeroValue5
 infoByte := by kernel_rfl
 cellsByte := by kernel_rfl
 sizeByte := by kernel_rfl
 neB5 := by decide }
open Go.RowKit in
theorem Tryd.strings_Join (bk o c : Nat) (xs : List ByteArray) (sep : ByteArray) (w : World) (hcells : ∀ (j : Nat) x, xs[j]? = some x → w.cell? ⟨bk, o + j, none⟩ = some (.string x)) (hbk : bk < w.heap.size) (hN : xs.length ≤ 140737488355328) (hcap : xs.length ≤ c) (hlen : (Lib.join (xs.map (·.data.toList)) sep.data.toList).length ≤ 140737488355328) :
  Calls Tryd.prog 56 #[.slice (some ⟨bk, o, none⟩) xs.length c, .string sep] w fun e w' => e = .returned (.string ⟨(Lib.join (xs.map (·.data.toList)) sep.data.toList).toArray⟩) ∧ Below w.heap.size w w' := Any.strings_Join Tryd.lays156 Tryd.Builder_Extra_156 bk o c xs sep w hcells hbk hN hcap hlen
def Tryd.lays161_ren : Go.Shelf.Ren := ⟨fun | 161 => 49 | 231 => 67 | 227 => 68 | 233 => 69 | 235 => 70 | 228 => 81 | 197 => 82 | 151 => 83 | 260 => 93 | 152 => 94 | 137 => 65 | 119 => 99 | 224 => 100 | 225 => 101 | 217 => 80 | 266 => 92 | n => n, fun | 9 => 9 | 4 => 4 | 3 => 3 | 5 => 5 | 117 => 94 | 116 => 93 | 0 => 0 | 124 => 97 | 105 => 114 | 21 => 21 | 119 => 136 | 46 => 123 | 139 => 139 | 138 => 138 | n => n, fun | 3 => 1 | 4 => 2 | n => n⟩
theorem Tryd.lays161 : Go.Proofs.Lays.n161 Tryd.prog Tryd.lays161_ren := {
 mixed := by kernel_rfl
 f119 := Tryd.func99.trans (congrArg some (by kernel_rfl))
 f137 := Tryd.func65.trans (congrArg some (by kernel_rfl))
 f151 := Tryd.func83.trans (congrArg some (by kernel_rfl))
 f152 := Tryd.func94.trans (congrArg some (by kernel_rfl))
 f161 := Tryd.func49.trans (congrArg some (by kernel_rfl))
 f197 := Tryd.func82.trans (congrArg some (by kernel_rfl))
 f217 := Tryd.func80.trans (congrArg some (by kernel_rfl))
 f224 := Tryd.func100.trans (congrArg some (by kernel_rfl))
 f225 := Tryd.func101.trans (congrArg some (by kernel_rfl))
 f227 := Tryd.func68.trans (congrArg some (by kernel_rfl))
 f228 := Tryd.func81.trans (congrArg some (by kernel_rfl))
 f231 := Tryd.func67.trans (congrArg some (by kernel_rfl))
 f233 := Tryd.func69.trans (congrArg some (by kernel_rfl))
 f235 := Tryd.func70.trans (congrArg some (by kernel_rfl))
 f260 := Tryd.func93.trans (congrArg some (by kernel_rfl))
 f266 := Tryd.func92.trans (congrArg some (by kernel_rfl))
 t0 := Tryd.underlying0
 a0 := Tryd.isAgg0
 z0 := Tryd.sizeOf0
 v0 := Tryd.zeroValue0
 t3 := Tryd.underlying3
 a3 := Tryd.isAgg3
 z3 := Tryd.sizeOf3
 v3 := Tryd.zeroValue3
 t4 := Tryd.underlying4
 a4 := Tryd.isAgg4
 z4 := Tryd.sizeOf4
 v4 := Tryd.zeroValue4
 t5 := Tryd.underlying5
 a5 := Tryd.isAgg5
 z5 := Tryd.sizeOf5
 v5 := Tryd.zeroValue5
 t9 := Tryd.underlying9
 a9 := Tryd.isAgg9
 z9 := Tryd.sizeOf9
 v9 := Tryd.zeroValue9
 t21 := Tryd.underlying21
 a21 := Tryd.isAgg21
 z21 := Tryd.sizeOf21
 v21 := Tryd.zeroValue21
 t46 := Tryd.underlying123
 a46 := Tryd.isAgg123
 z46 := Tryd.sizeOf123
 v46 := Tryd.zeroValue123
 t105 := Tryd.underlying114
 a105 := Tryd.isAgg114
 z105 := Tryd.sizeOf114
 v105 := Tryd.zeroValue114
 t116 := Tryd.underlying93
 a116 := Tryd.isAgg93
 z116 := Tryd.sizeOf93
 t117 := Tryd.underlying94
 a117 := Tryd.isAgg94
 z117 := Tryd.sizeOf94
 v117 := Tryd.zeroValue94
 t119 := Tryd.underlying136
 a119 := Tryd.isAgg136
 z119 := Tryd.sizeOf136
 t124 := Tryd.underlying97
 a124 := Tryd.isAgg97
 z124 := Tryd.sizeOf97
 v124 := Tryd.zeroValue97
 t138 := Tryd.underlying138
 a138 := Tryd.isAgg138
 z138 := Tryd.sizeOf138
 v138 := Tryd.zeroValue138
 t139 := Tryd.underlying139
 a139 := Tryd.isAgg139
 z139 := Tryd.sizeOf139
 v139 := Tryd.zeroValue139
 g3 := by kernel_rfl
 g4 := by kernel_rfl }
open Go.RowKit in
theorem Tryd.strings_TrimLeft_one (s : ByteArray) (c : UInt8) (hc : c.toNat < 128) (w : World) :
  Calls Tryd.prog 49 #[.string s, .string ⟨#[c]⟩] w fun e w' => e = .returned (.string ⟨(Lib.trimLeftB s.data.toList c).toArray⟩) ∧ w' = w := Any.strings_TrimLeft_one Tryd.lays161 s c hc w
def Tryd.lays137_ren : Go.Shelf.Ren := ⟨fun | 137 => 65 | 217 => 80 | 266 => 92 | n => n, fun | 9 => 9 | 5 => 5 | 3 => 3 | n => n, fun | n => n⟩
theorem Tryd.lays137 : Go.Proofs.Lays.n137 Tryd.prog Tryd.lays137_ren := {
 mixed := by kernel_rfl
 f137 := Tryd.func65.trans (congrArg some (by kernel_rfl))
 f217 := Tryd.func80.trans (congrArg some (by kernel_rfl))
 f266 := Tryd.func92.trans (congrArg some (by kernel_rfl))
 t3 := Tryd.underlying3
 a3 := Tryd.isAgg3
 z3 := Tryd.sizeOf3
 v3 := Tryd.zeroValue3
 t5 := Tryd.underlying5
 a5 := Tryd.isAgg5
 z5 := Tryd.sizeOf5
 v5 := Tryd.zeroValue5
 t9 := Tryd.underlying9
 a9 := Tryd.isAgg9
 z9 := Tryd.sizeOf9
 v9 := Tryd.zeroValue9 }
open Go.RowKit in
theorem Tryd.strings_IndexByte (s : ByteArray) (c : Int) (w : World) :
  Calls Tryd.prog 65 #[.string s, .int .u8 c] w fun e w' => e = .returned (.int .i64 (Lib.indexByte s.data.toList c.toNat.toUInt8)) ∧ w' = w := Any.strings_IndexByte Tryd.lays137 s c w
def Tryd.lays206_ren : Go.Shelf.Ren := ⟨fun | 206 => 84 | n => n, fun | 9 => 9 | 4 => 4 | 3 => 3 | n => n, fun | n => n⟩
theorem Tryd.lays206 : Go.Proofs.Lays.n206 Tryd.prog Tryd.lays206_ren := {
 mixed := by kernel_rfl
 f206 := Tryd.func84.trans (congrArg some (by kernel_rfl))
 t3 := Tryd.underlying3
 a3 := Tryd.isAgg3
 z3 := Tryd.sizeOf3
 v3 := Tryd.zeroValue3
 t4 := Tryd.underlying4
 a4 := Tryd.isAgg4
 z4 := Tryd.sizeOf4
 v4 := Tryd.zeroValue4
 t9 := Tryd.underlying9
 a9 := Tryd.isAgg9
 z9 := Tryd.sizeOf9
 v9 := Tryd.zeroValue9 }
open Go.RowKit Go.Lib in
theorem Tryd.stringslite_HasPrefix (s p : ByteArray) (w : World) :
  Calls Tryd.prog 84 #[.string s, .string p] w fun e w' => e = .returned (.bool (Lib.hasPrefix s.data.toList p.data.toList)) ∧ w' = w := Any.stringslite_HasPrefix Tryd.lays206 s p w
def Tryd.lays109_ren : Go.Shelf.Ren := ⟨fun | 109 => 51 | n => n, fun | 31 => 23 | 9 => 9 | 3 => 3 | 0 => 0 | 4 => 4 | n => n, fun | n => n⟩
theorem Tryd.lays109 : Go.Proofs.Lays.n109 Tryd.prog Tryd.lays109_ren := {
 mixed := by kernel_rfl
 f109 := Tryd.func51.trans (congrArg some (by kernel_rfl))
 t0 := Tryd.underlying0
 a0 := Tryd.isAgg0
 z0 := Tryd.sizeOf0
 v0 := Tryd.zeroValue0
 t3 := Tryd.underlying3
 a3 := Tryd.isAgg3
 z3 := Tryd.sizeOf3
 v3 := Tryd.zeroValue3
 t4 := Tryd.underlying4
 a4 := Tryd.isAgg4
 z4 := Tryd.sizeOf4
 v4 := Tryd.zeroValue4
 t9 := Tryd.underlying9
 a9 := Tryd.isAgg9
 z9 := Tryd.sizeOf9
 v9 := Tryd.zeroValue9
 t31 := Tryd.underlying23
 a31 := Tryd.isAgg23
 z31 := Tryd.sizeOf23
 v31 := Tryd.zeroValue23 }
open Go.Lib in
theorem Tryd.slices_Index_string (b off n c : Nat) (zs : List ByteArray) (x : ByteArray) (w : World) (hz : n ≤ zs.length) (hbig : n ≤ 9223372036854775807) (hc : ∀ j, j < zs.length → w.cell? ⟨b, off + j, none⟩ = some (.string (zs.getD j ByteArray.empty))) :
  Calls Tryd.prog 51 #[.slice (some ⟨b, off, none⟩) n c, .string x] w fun e w' => e = .returned (.int .i64 (Lib.idxOfS (zs.take n) x)) ∧ w' = w := Any.slices_Index_string Tryd.lays109 b off n c zs x w hz hbig hc
end Go.Proofs
end
section
namespace Go.Proofs.YtpklfaglenkdaaaDoor.Pr
open Go.RowKit Go.Proofs.YtpklfaglenkdaaaDoorW.PrintWords Go.Proofs.YtpklfaglenkdaaaDoorW.PrintLast Go.Proofs.YtpklfaglenkdaaaDoorW.PrintMore
def feedy (s : ByteArray) : Bool := decide (0 ≤ Go.Lib.indexByte s.data.toList 10)
def idxFrom (p : ByteArray → Bool) : List ByteArray → Nat → Int
 | [], _ => -1
 | s :: l, i => if p s = true then (i : Int) else idxFrom p l (i + 1)
theorem idxFrom_hit (p : ByteArray → Bool) : ∀ (l : List ByteArray) (i kk : Nat) (hk : kk < l.length), (∀ j (hj : j < kk), p (l[j]'(by omega)) = false) → p l[kk] = true → idxFrom p l i = ((i + kk : Nat) : Int)
 | s :: l, i, 0, _, _, h => by simp only [List.getElem_cons_zero] at h; simp [idxFrom, h]
 | s :: l, i, kk + 1, hk, hn, h => by
  have h0 := hn 0 (by omega)
  simp only [List.getElem_cons_zero] at h0
  simp only [idxFrom, h0]
  have := idxFrom_hit p l (i + 1) kk (by simpa using hk) (fun j hj => by simpa using hn (j + 1) (by omega)) (by simpa using h)
  rw [if_neg (by simp), this]
  omega
theorem idxFrom_miss (p : ByteArray → Bool) : ∀ (l : List ByteArray) (i : Nat), (∀ j (hj : j < l.length), p (l[j]'hj) = false) → idxFrom p l i = -1
 | [], i, _ => rfl
 | s :: l, i, h => by
  have h0 := h 0 (by simp)
  simp only [List.getElem_cons_zero] at h0
  simp only [idxFrom, h0]
  rw [if_neg (by simp)]
  exact idxFrom_miss p l (i + 1) (fun j hj => h (j + 1) (by simpa using hj))
theorem idxFrom_nonneg (p : ByteArray → Bool) : ∀ (l : List ByteArray) (i : Nat), 0 ≤ idxFrom p l i ↔ l.any p = true
 | [], i => by simp [idxFrom]
 | s :: l, i => by
  have ih := idxFrom_nonneg p l (i + 1)
  by_cases h : p s = true
  ·simp [idxFrom, h]
  ·simp only [idxFrom, List.any_cons, Bool.eq_false_iff.2 h, Bool.false_or]
   exact ih
theorem idxFrom_any (p : ByteArray → Bool) (l : List ByteArray) (i : Nat) : decide (0 ≤ idxFrom p l i) = l.any p := by
 rw [Bool.eq_iff_iff, decide_eq_true_iff]
 exact idxFrom_nonneg p l i
theorem odd1_any (s : ByteArray) (w : World) : Calls Tryd.prog 85 #[.string s] w fun e w' => e = .returned (.bool (feedy s)) ∧ w' = w := by
 go_enter Tryd.func85, Tryd.ntmps85
 go_wp2_with (go_at_call 65; refine (Tryd.strings_IndexByte _ _ _).mono ?_; rintro e w' ⟨rfl, rfl⟩)
 go_ret
 exact ⟨rfl, rfl⟩
set_option maxHeartbeats 2000000 in
theorem idxf_any (A0 : Option Addr) (c0 : Nat) (l0 : List ByteArray) (w : World) (hr0 : Kd.C Kd.string w A0 l0.length l0) :
  Calls Tryd.prog 79 #[.slice A0 l0.length c0, .func (.func 85) #[] #[]] w fun e w' => e = .returned (.int .i64 (idxFrom feedy l0 0)) ∧ Drawn0 w w' := by
 have hbig : l0.length ≤ 9223372036854775807 := hr0.2.1
 have eg : ∀ args w, (callFunc 85 args).run Tryd.prog w = .ok (.enter 85 args) w := enters_of Tryd.func85 (by kernel_rfl) rfl
 have HR0 := Aside0.mk hr0
 clear hr0
 go_enter Tryd.func79, Tryd.ntmps79
 go_wp2
 go_loopg [5, 8] l0.length (fun gg _ s8 wr => ∃ kk q : Nat, kk ≤ l0.length ∧ l0.length - kk ≤ gg ∧ s8 = .int .i64 kk ∧ wr = w.drewN q ∧ Aside0 (∀ j (hj : j < l0.length), j < kk → feedy (l0[j]'hj) = false))
 case atStart => exact ⟨0, 0, Nat.zero_le _, by omega, rfl, rfl, ⟨fun j _ hj => absurd hj (Nat.not_lt_zero _)⟩⟩
 case round =>
  obtain ⟨kk, q, hkk, hg, rfl, rfl, HN⟩ := hrel
  by_cases hlt : kk < l0.length
  ·have hltz : (kk : Int) < (l0.length : Int) := by omega
   obtain ⟨ad, rfl, hcell⟩ := Kd.at_string HR0.out (kk : Int) (by omega) (by omega)
   simp only [Int.toNat_natCast] at hcell
   have hy0 : rdOf ByteArray.empty l0 (kk : Int) = l0[kk] := by simp [rdOf, hlt]
   rw [hy0] at hcell
   obtain ⟨y, hy⟩ : ∃ y, y = l0[kk] := ⟨_, rfl⟩
   rw [← hy] at hcell
   have HY := Aside0.mk hy
   clear hy hy0
   have hcall := odd1_any y
   cases hq : feedy y with
   | true =>
    rw [hq] at hcall
    go_wp2_with (go_at_fn 85; refine (hcall _).mono ?_; rintro e w' ⟨rfl, rfl⟩)
    go_ret
    refine ⟨?_, ⟨⟨_, rfl⟩⟩⟩
    rw [idxFrom_hit feedy l0 0 kk hlt (fun j hj => HN.out j (by omega) hj) (by rw [← HY.out]; exact hq)]
    simp
   | false =>
    rw [hq] at hcall
    go_wp2_with (go_at_fn 85; refine (hcall _).mono ?_; rintro e w' ⟨rfl, rfl⟩)
    go_roundg (l0.length - (kk + 1))
    case measure => omega
    case rel =>
     refine ⟨kk + 1, _, by omega, by omega, by go_num, rfl, ⟨fun j hjl hj => ?_⟩⟩
     by_cases e : j = kk
     ·subst e
      rw [← HY.out]; exact hq
     ·exact HN.out j hjl (by omega)
  ·have hltz : ¬ (kk : Int) < (l0.length : Int) := by omega
   have hk : kk = l0.length := by omega
   have HK := Aside0.mk hk
   clear hk
   go_wp2
   go_ret
   refine ⟨?_, ⟨⟨q, rfl⟩⟩⟩
   rw [idxFrom_miss feedy l0 0 (fun j hj => HN.out j hj (by rw [HK.out]; exact hj))]
   rfl
theorem contains_any (A0 : Option Addr) (c0 : Nat) (l0 : List ByteArray) (w : World) (hr0 : Kd.C Kd.string w A0 l0.length l0) :
  Calls Tryd.prog 63 #[.slice A0 l0.length c0, .func (.func 85) #[] #[]] w fun e w' => e = .returned (.bool (l0.any feedy)) ∧ Drawn0 w w' := by
 rw [← idxFrom_any feedy l0 0]
 go_enter Tryd.func63, Tryd.ntmps63
 go_wp2_with (go_at_call 79; refine (idxf_any A0 c0 l0 _ hr0).mono ?_; rintro e w' ⟨rfl, ⟨q, rfl⟩⟩)
 go_ret
 exact ⟨rfl, ⟨⟨q, rfl⟩⟩⟩
def lines_odd.f (l0 : List ByteArray) : Option (Bool) := some (l0.any feedy)
theorem lines_odd.calls (A0 : Option Addr) (c0 : Nat) (l0 : List ByteArray) (r : Bool) (w : World) (hr0 : Kd.C Kd.string w A0 l0.length l0) (hc0 : l0.length ≤ c0) (h : lines_odd.f l0 = some r) :
  Calls Tryd.prog 73 #[.slice A0 l0.length c0] w fun e w' => e = .returned (.bool r) ∧ Drawn0 w w' := by
 obtain rfl : l0.any feedy = r := by simpa [lines_odd.f] using h
 clear h
 go_enter Tryd.func73, Tryd.ntmps73
 go_wp2_with (go_at_call 63; refine (contains_any A0 c0 l0 _ hr0).mono ?_; rintro e w' ⟨rfl, ⟨q, rfl⟩⟩)
 go_ret
 exact ⟨rfl, ⟨⟨q, rfl⟩⟩⟩
end Go.Proofs.YtpklfaglenkdaaaDoor.Pr
end
section
namespace Go.Proofs.YtpklfaglenkdaaaDoor.Pr
open Go.RowKit Go.Proofs.YtpklfaglenkdaaaDoorW.PrintWords Go.Proofs.YtpklfaglenkdaaaDoorW.PrintLast Go.Proofs.YtpklfaglenkdaaaDoorW.PrintMore
attribute [local go_sem] max2_int min2_int max_two min_two max_three min_three max_four min_four   
def lines_check.l0 : Nat → List ByteArray → Int → List ByteArray → Int → Int → Option (Int)
 | 0, _, _, _, _, _ => none
 | k + 1, x0, x3, x12, x13, x14 => if x14 < x13 then (if 0 ≤ x14 then (if x14 < (x12.length : Int) then (lines_check.l0 k x0 (wrap64 (x3 + ((rdOf ByteArray.empty x12 x14).size : Int))) x12 x13 (wrap64 (x14 + 1))) else (none)) else (none)) else (if x3 > 2000 then (some 4) else (if (x0.length : Int) = 0 then (some 8) else ((lines_odd.f x0).bind fun t386 => (if t386 = true then (some 8) else (some 0)))))
def lines_check.f (k : Nat) (l0 : List ByteArray) : Option (Int) := if (l0.length : Int) > 60 then (some 4) else (lines_check.l0 k l0 (wrap64 ((l0.length : Int) - 1)) l0 (l0.length : Int) 0)
set_option maxHeartbeats 8000000 in
set_option maxRecDepth 100000 in
theorem lines_check.calls (k : Nat) (A0 : Option Addr) (c0 : Nat) (l0 : List ByteArray) (r : Int) (w : World) (hr0 : Kd.C Kd.string w A0 l0.length l0) (hc0 : l0.length ≤ c0) (h : lines_check.f k l0 = some r) :
  Calls Tryd.prog 55 #[.slice A0 l0.length c0] w fun e w' => e = .returned (.int .i64 r) ∧ Drawn0 w w' := by
 have HR0 := Aside0.mk hr0
 have HC0 := Aside0.mk hc0
 clear hr0 hc0
 have H : (if (l0.length : Int) > 60 then (some 4) else (lines_check.l0 k l0 (wrap64 ((l0.length : Int) - 1)) l0 (l0.length : Int) 0)) = some r := h
 clear h
 by_cases c2 : (l0.length : Int) > 60
 ·rw [if_pos c2] at H
  have c2b0 : decide (60 < (l0.length : Int)) = true := decide_eq_true c2
  have c2b1 : decide (60 < l0.length) = true := decide_eq_true (by omega)
  clear c2
  obtain rfl := Option.some.inj H
  go_enter Tryd.func55, Tryd.ntmps55
  go_wp2
  go_ret
  exact ⟨by first | rfl | (simp; done) | (simp [*]; done), by repeat (first | exact Drawn0.refl _ | apply Drawn0.step)⟩
 ·rw [if_neg c2] at H
  have c2b0 : decide (60 < (l0.length : Int)) = false := decide_eq_false c2
  have c2b1 : decide (60 < l0.length) = false := decide_eq_false (by omega)
  clear c2
  have H' := Aside0.mk H
  clear H
  go_enter Tryd.func55, Tryd.ntmps55
  go_wp2
  go_loopg [3, 14] k (fun kq v3 v14 w' => ∃ (x3_1 : Int) (x14_1 : Int), v3 = .int .i64 x3_1 ∧ v14 = .int .i64 x14_1 ∧ Aside0 (lines_check.l0 kq l0 x3_1 l0 (l0.length : Int) x14_1 = some r) ∧ Aside0 (kq ≤ k) ∧ Drawn0 w w')
  case atStart => exact ⟨(wrap64 ((l0.length : Int) - 1)), (0), (by first | rfl | (simp; done) | (simp [*]; done)), (by first | rfl | (simp; done) | (simp [*]; done)), H', ⟨Nat.le_refl _⟩, by repeat (first | exact Drawn0.refl _ | apply Drawn0.step)⟩
  case round =>
   clear H'
   try clear c2
   try clear c2b0
   try clear c2b1
   try clear p2
   obtain ⟨x3_1, x14_1, rfl, rfl, HA, HK1, ⟨m1, rfl⟩⟩ := hrel
   cases gk with
   | zero => exact absurd HA.out (by simp [lines_check.l0])
   | succ k1 =>
    have H := HA.out
    clear HA
    simp only [lines_check.l0] at H
    by_cases c3 : x14_1 < (l0.length : Int)
    ·rw [if_pos c3] at H
     have c3b0 : decide (x14_1 < (l0.length : Int)) = true := decide_eq_true c3
     clear c3
     by_cases c4 : 0 ≤ x14_1
     ·rw [if_pos c4] at H
      have c4b0 : decide (0 ≤ x14_1) = true := decide_eq_true c4
      clear c4
      by_cases c5 : x14_1 < (l0.length : Int)
      ·rw [if_pos c5] at H
       have c5b0 : decide (x14_1 < (l0.length : Int)) = true := decide_eq_true c5
       clear c5
       have H' := Aside0.mk H
       clear H
       have p385 : 0 ≤ (x14_1 : Int) := of_decide_eq_true (by first | (with_reducible assumption) | assumption)
       have q385 : x14_1 < (l0.length : Int) := of_decide_eq_true (by first | (with_reducible assumption) | assumption)
       obtain ⟨ad385, e385, hx385_0⟩ := Kd.at_string HR0.out x14_1 p385 q385
       cases e385
       replace p385 := eq_true p385
       replace q385 := eq_true q385
       go_wp2
       go_roundg k1
       case measure => have := HK1.out; omega
       case rel => exact ⟨(wrap64 (x3_1 + ((rdOf ByteArray.empty l0 x14_1).size : Int))), (wrap64 (x14_1 + 1)), (by first | rfl | (simp; done) | (simp [*]; done)), (by first | rfl | (simp; done) | (simp [*]; done)), H', ⟨by have := HK1.out; omega⟩, by repeat (first | exact Drawn0.refl _ | apply Drawn0.step)⟩
      ·rw [if_neg c5] at H
       exact absurd H (by simp)
     ·rw [if_neg c4] at H
      exact absurd H (by simp)
    ·rw [if_neg c3] at H
     have c3b0 : decide (x14_1 < (l0.length : Int)) = false := decide_eq_false c3
     clear c3
     by_cases c6 : x3_1 > 2000
     ·rw [if_pos c6] at H
      have c6b0 : decide (2000 < x3_1) = true := decide_eq_true c6
      clear c6
      obtain rfl := Option.some.inj H
      go_wp2
      go_ret
      exact ⟨by first | rfl | (simp; done) | (simp [*]; done), by repeat (first | exact Drawn0.refl _ | apply Drawn0.step)⟩
     ·rw [if_neg c6] at H
      have c6b0 : decide (2000 < x3_1) = false := decide_eq_false c6
      clear c6
      by_cases c7 : (l0.length : Int) = 0
      ·rw [if_pos c7] at H
       have c7b0 : ((l0.length : Int) == 0) = true := beq_iff_eq.mpr c7
       have c7b1 : ((l0.length : Int) != 0) = false := bne_eq_false_iff_eq.mpr c7
       clear c7
       obtain rfl := Option.some.inj H
       go_wp2
       go_ret
       exact ⟨by first | rfl | (simp; done) | (simp [*]; done), by repeat (first | exact Drawn0.refl _ | apply Drawn0.step)⟩
      ·rw [if_neg c7] at H
       have c7b0 : ((l0.length : Int) == 0) = false := beq_eq_false_iff_ne.mpr c7
       have c7b1 : ((l0.length : Int) != 0) = true := bne_iff_ne.mpr c7
       have c7b2 : ¬ (l0 = []) := fun h_ => c7 (by rw [h_]; rfl)
       replace H := Option.bind_eq_some_iff.mp H
       obtain ⟨t386, A80, H⟩ := H
       replace H : (if t386 = true then (some 8) else (some 0)) = some r := H
       have A8 := Aside0.mk A80
       clear A80
       by_cases c9 : t386 = true
       ·subst c9
        have H1 : (some 8) = some r := by rw [if_pos rfl] at H; exact H
        clear H
        have H := H1
        clear H1
        obtain rfl := Option.some.inj H
        go_wp2_with (first | (go_at_call 73; (with_reducible refine (lines_odd.calls _ _ l0 true _ ?side1 ?side2 A8.out).mono ?_); (case side1 => repeat (first | exact HR0.out | (with_reducible refine Kd.C_alloc ?_ _) | (with_reducible refine Kd.C_drewN ?_ _) | (with_reducible refine Kd.C_drew ?_))); (case side2 => exact HC0.out); rintro e w' ⟨rfl, ⟨nd, rfl⟩⟩))
        go_ret
        exact ⟨by first | rfl | (simp; done) | (simp [*]; done), by repeat (first | exact Drawn0.refl _ | apply Drawn0.step)⟩
       ·replace c9 := Bool.eq_false_iff.mpr c9
        subst c9
        have H1 : (some 0) = some r := by rw [if_neg (show ¬ (false = true) by decide)] at H; exact H
        clear H
        have H := H1
        clear H1
        obtain rfl := Option.some.inj H
        go_wp2_with (first | (go_at_call 73; (with_reducible refine (lines_odd.calls _ _ l0 false _ ?side1 ?side2 A8.out).mono ?_); (case side1 => repeat (first | exact HR0.out | (with_reducible refine Kd.C_alloc ?_ _) | (with_reducible refine Kd.C_drewN ?_ _) | (with_reducible refine Kd.C_drew ?_))); (case side2 => exact HC0.out); rintro e w' ⟨rfl, ⟨nd, rfl⟩⟩))
        go_ret
        exact ⟨by first | rfl | (simp; done) | (simp [*]; done), by repeat (first | exact Drawn0.refl _ | apply Drawn0.step)⟩
end Go.Proofs.YtpklfaglenkdaaaDoor.Pr
end
section
namespace Go.Proofs.YtpklfaglenkdaaaDoor.Pr
open Go.RowKit Go.Proofs.YtpklfaglenkdaaaDoorW.PrintWords Go.Proofs.YtpklfaglenkdaaaDoorW.PrintLast Go.Proofs.YtpklfaglenkdaaaDoorW.PrintMore
def bytesIn (l : List ByteArray) : Nat := (l.map (·.size)).sum
def linesErr (l : List ByteArray) : Int := if 60 < l.length then 4 else if 2001 < bytesIn l + l.length then 4 else if l.length = 0 then 8 else if l.any feedy = true then 8 else 0
def small (l : List ByteArray) : Prop := ∀ s ∈ l, s.size ≤ 140737488351232
theorem bytesIn_take_succ (l : List ByteArray) (i : Nat) (h : i < l.length) : bytesIn (l.take (i + 1)) = bytesIn (l.take i) + l[i].size := by
 unfold bytesIn
 rw [take_succ_at l i h, List.map_append, List.sum_append]
 simp
theorem bytesIn_le (l : List ByteArray) (h : small l) : bytesIn l ≤ l.length * 140737488351232 := by
 induction l with
 | nil => simp [bytesIn]
 | cons s l ih =>
  have h1 := h s (by simp)
  have h2 := ih (fun x hx => h x (by simp [hx]))
  simp only [bytesIn, List.map_cons, List.sum_cons, List.length_cons] at h2 ⊢
  omega
theorem small_take {l : List ByteArray} (h : small l) (i : Nat) : small (l.take i) := fun s hs => h s (List.mem_of_mem_take hs)
theorem check_loop (l : List ByteArray) (hs : small l) (hl : l.length ≤ 60) : ∀ (d i : Nat), i + d = l.length →
  Ev (fun k => lines_check.l0 k l ((l.length : Int) - 1 + (bytesIn (l.take i) : Int)) l (l.length : Int) (i : Int)) (linesErr l) := by
 have hfin : Ev (fun k => lines_check.l0 k l ((l.length : Int) - 1 + (bytesIn (l.take l.length) : Int)) l (l.length : Int) (l.length : Int)) (linesErr l) := by
  refine Ev.step (fun k => by rw [lines_check.l0]) ?_
  refine Ev.neg (by omega) ?_
  rw [List.take_length]
  unfold linesErr
  rw [if_neg (show ¬ 60 < l.length by omega)]
  by_cases h1 : 2001 < bytesIn l + l.length
  ·rw [if_pos h1]
   exact Ev.pos (by omega) (Ev.now _)
  ·rw [if_neg h1]
   refine Ev.neg (by omega) ?_
   by_cases h2 : l.length = 0
   ·rw [if_pos h2]
    exact Ev.pos (by omega) (Ev.now _)
   ·rw [if_neg h2]
    refine Ev.neg (by omega) ?_
    by_cases h3 : l.any feedy = true
    ·rw [if_pos h3]
     exact Ev.bc (show lines_odd.f l = some true by unfold lines_odd.f; rw [h3]) (Ev.pos rfl (Ev.now _))
    ·rw [if_neg h3]
     exact Ev.bc (show lines_odd.f l = some false by unfold lines_odd.f; rw [Bool.eq_false_iff.2 h3]) (Ev.neg (by simp) (Ev.now _))
 intro d
 induction d with
 | zero =>
  intro i hi
  obtain rfl : i = l.length := by omega
  exact hfin
 | succ d ih =>
  intro i hi
  have hlt : i < l.length := by omega
  have hb := bytesIn_le _ (small_take hs (i + 1))
  have hs' := bytesIn_take_succ l i hlt
  have hk : (l.take (i + 1)).length ≤ 60 := by rw [List.length_take]; omega
  refine Ev.step (fun k => by rw [lines_check.l0]) ?_
  refine Ev.pos (by omega) (Ev.pos (by omega) (Ev.pos (by omega) ?_))
  rw [rdOf_at _ _ _ hlt, w64 (by omega), w64 (by omega)]
  have h := ih (i + 1) (by omega)
  rw [hs'] at h
  simpa [Int.add_assoc] using h
theorem check_ev (l : List ByteArray) (hs : small l) : Ev (fun k => lines_check.f k l) (linesErr l) := by
 unfold lines_check.f
 by_cases hl : 60 < l.length
 ·refine Ev.pos (by omega) (Ev.rt ?_)
  unfold linesErr
  rw [if_pos hl]
 ·refine Ev.neg (by omega) ?_
  have h := check_loop l hs (by omega) l.length 0 (by omega)
  rw [w64 (by omega)]
  simpa [bytesIn] using h
end Go.Proofs.YtpklfaglenkdaaaDoor.Pr
end
section
namespace Go.Proofs.YtpklfaglenkdaaaDoor.Pr
open Go.RowKit Go.Proofs.YtpklfaglenkdaaaDoorW.PrintWords Go.Proofs.YtpklfaglenkdaaaDoorW.PrintLast Go.Proofs.YtpklfaglenkdaaaDoorW.PrintMore
theorem cell_lt {w : World} {a : Addr} {v : Value} (h : w.cell? a = some v) : a.spot = none ∧ a.block < w.heap.size := by
 refine ⟨?_, World.block_lt_of_cell? w a h⟩
 unfold World.cell? at h
 split at h
 ·split at h
  ·cases h
  ·rename_i hs
   cases hsp : a.spot
   ·rfl
   ·simp [hsp] at hs
 ·cases h
theorem C_addr {α : Type} {d : Kd α} {w : World} {A : Option Addr} {n : Nat} {xs : List α} (hs : 0 < d.sz) (h : d.C w A n xs) (hp : 0 < n) : ∃ b o, A = some ⟨b, o, none⟩ ∧ b < w.heap.size := by
 obtain ⟨ad, rfl, hc⟩ := h.2.2 hp
 have h1 := h.1
 obtain ⟨c, hl, _, hcc⟩ := hc 0 xs[0] (by simp)
 have h0 := hcc 0 c[0] (by simp)
 have h2 := cell_lt h0
 have e : ad.add (0 * d.sz + 0) = ad := by simp [Addr.add]
 rw [e] at h2
 obtain ⟨b, o, sp⟩ := ad
 obtain rfl : sp = none := h2.1
 exact ⟨b, o, rfl, h2.2⟩
theorem C_strings {w : World} {A : Option Addr} {xs : List ByteArray} (h : Kd.C Kd.string w A xs.length xs) (hp : 0 < xs.length) : ∃ b o, A = some ⟨b, o, none⟩ ∧ b < w.heap.size ∧ ∀ (j : Nat) x, xs[j]? = some x → w.cell? ⟨b, o + j, none⟩ = some (.string x) := by
 obtain ⟨b, o, rfl, hb⟩ := C_addr (d := Kd.string) (by decide) h hp
 refine ⟨b, o, rfl, hb, fun j x hx => ?_⟩
 have hj : j < xs.length := (List.getElem?_eq_some_iff.1 hx).1
 obtain ⟨ad, e, hc⟩ := Kd.at_string h (j : Int) (by omega) (by omega)
 injection e with e
 subst e
 have hx' : rdOf ByteArray.empty xs (j : Int) = x := by simp [rdOf, hx]
 rw [hx', Int.toNat_natCast] at hc
 have ha : (⟨b, o, none⟩ : Addr).add j = ⟨b, o + j, none⟩ := by unfold Addr.add; split <;> simp_all
 rwa [ha] at hc
theorem bytes_C (W : World) (e : TypeId) (s : ByteArray) (hs : s.size ≤ 9223372036854775807) : Kd.C (Kd.int .u8) (Lib.bytesWorld W e s) (some ⟨W.heap.size, 0, none⟩) s.size (bytesOf s) := Kd.C_of_reads (d := (0 : Int)) (h1 := fun _ => rfl) (bytes_reads W e s hs)
theorem bytes_V (W : World) (e : TypeId) (s : ByteArray) (hs : s.size ≤ 9223372036854775807) (c : Nat) (hc : s.size ≤ c) {B : Nat} (hB : B ≤ W.heap.size) : Kd.V (Kd.int .u8) e (Lib.bytesWorld W e s) B (fun k_ => B ≤ k_) (.slice (some ⟨W.heap.size, 0, none⟩) s.size c) (bytesOf s) := by
 refine ⟨some ⟨W.heap.size, 0, none⟩, c, by rw [bytesOf_length], by rw [bytesOf_length]; exact hc, ?_⟩
 rw [bytesOf_length]
 intro W' hW
 have hb := hW W.heap.size hB (by rw [Lib.bytesWorld_size]; omega)
 have h := bytes_C W e s hs
 obtain ⟨h1, h2, h3⟩ := h
 refine ⟨h1, h2, fun hp => ?_⟩
 obtain ⟨ad, ea, hcell⟩ := h3 hp
 refine ⟨ad, ea, fun j p hj => ?_⟩
 obtain ⟨cs, e1, e2, e3⟩ := hcell j p hj
 refine ⟨cs, e1, e2, fun i u hu => ?_⟩
 have := e3 i u hu
 injection ea with ea
 subst ea
 have hbk : ∀ m, ((⟨W.heap.size, 0, none⟩ : Addr).add m).block = W.heap.size := fun m => by unfold Addr.add; split <;> rfl
 unfold World.cell? at this ⊢
 rw [hbk] at this ⊢
 rw [hb]
 exact this
end Go.Proofs.YtpklfaglenkdaaaDoor.Pr
end
