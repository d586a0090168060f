/- Conversions to bytes, as events of a walk: of a string, and of a literal that is a constant's. -/
import Derived.Test.YtiledjckdnkjgaaDoorWk
import Derived.Lib.SlBytesConst
namespace Go.Proofs.YtiledjckdnkjgaaDoor.Pr
open Go.RowKit Go.Proofs.YtiledjckdnkjgaaDoorW.PrintWords Go.Proofs.YtiledjckdnkjgaaDoorW.PrintLast Go.Proofs.YtiledjckdnkjgaaDoorW.PrintMore
set_option linter.unusedVariables false
set_option linter.unusedSimpArgs false

/-- A block whose cells are bytes, read from its head. -/
theorem cells_C {W : World} {g e : Nat} {inner : Array Value} {fz : Nat × Nat} {xs : List Int} (hb : W.heap[g]? = some (.cells inner e fz)) (hin : inner.toList = xs.map (Value.int .u8)) (hm : xs.length ≤ 9223372036854775807) :
    Kd.C (Kd.int .u8) W (some ⟨g, 0, none⟩) xs.length xs := by
  refine Kd.C_of_reads (d := (0 : Int)) (h1 := fun _ => rfl) ⟨rfl, hm, fun hp => ⟨_, rfl, fun j hj => ?_⟩⟩
  have ha : (⟨g, 0, none⟩ : Addr).add j = ⟨g, j, none⟩ := by
    simp [Addr.add]
    omega
  rw [ha]
  have hc : W.cell? ⟨g, j, none⟩ = inner[j]? := by
    unfold World.cell?
    simp only [hb]
    rfl
  rw [hc, ← Array.getElem?_toList, hin, List.getElem?_map, List.getElem?_eq_getElem hj]
  simp [hj]
theorem cells_V {W : World} {g e B : Nat} {inner : Array Value} {fz : Nat × Nat} {xs : List Int} (hb : W.heap[g]? = some (.cells inner e fz)) (hin : inner.toList = xs.map (Value.int .u8)) (hm : xs.length ≤ 9223372036854775807) (hB : B ≤ g) (c : Nat) (hc : xs.length ≤ c) :
    Kd.V (Kd.int .u8) e W B (fun k_ => B ≤ k_) (.slice (some ⟨g, 0, none⟩) xs.length c) xs := by
  refine ⟨some ⟨g, 0, none⟩, c, rfl, hc, fun W' hW => ?_⟩
  have hlt : g < W.heap.size := (Array.getElem?_eq_some_iff.1 hb).1
  exact cells_C ((hW g hB hlt).trans hb) hin hm
section
variable {P : Program} {ops : Array Oper} {rest : List Oper} {o : Oper} {a : Act} {Q : Exit → Act → World → Prop}
/-- '[]byte(s)'. -/
theorem cv_str {w0 W : World} (base e : Nat) (hgd : o.guard = none) {N : Tmp} (_hd : o.dst = some N) (s : ByteArray)
    (hrun : (execOp a.eval o).run P W = .ok (.value (.slice (some ⟨W.heap.size, 0, none⟩) s.size (grownCap W s.size 0 e))) (Lib.bytesWorld W e s))
    (hm : s.size ≤ 9223372036854775807) (HB : Below base w0 W) (hbase : base ≤ W.heap.size)
    (h : ∀ v1 w1, Kd.V (Kd.int .u8) e w1 base (fun k_ => W.heap.size ≤ k_) v1 (bytesOf s) → Below base w0 w1 → W.grownBy w1 none → (∃ b, v1.ownBlock = some b ∧ W.heap.size ≤ b) → wpList P ops Q rest (a.put o.dst v1) w1) : wpList P ops Q (o :: rest) a W := by
  refine Kd.event_run hgd hrun (h _ _ (bytes_V W e s hm _ (grownCap_ge _ _ _ _) (Nat.le_refl _)) (bytes_below HB hbase e s) ?_ ⟨W.heap.size, by simp [Value.ownBlock], Nat.le_refl _⟩)
  exact grown_of_below (bytes_below (Below.refl W.heap.size W) (Nat.le_refl _) e s) none
/-- '[]byte("..")' of a constant: the literal, then its mark. -/
theorem cv_lit {w0 W : World} (base e : Nat) (hgd : o.guard = none) {N : Tmp} (_hd : o.dst = some N) {xs : List Int} {inner : Array Value}
    (hrun : (execOp a.eval o).run P (W.alloc (.cells inner e)) = .ok (.value (.slice (some ⟨W.heap.size, 0, none⟩) xs.length xs.length)) (W.alloc (.cells inner e (inner.size, inner.size + 1))))
    (hin : inner.toList = xs.map (Value.int .u8)) (hm : xs.length ≤ 9223372036854775807) (HB : Below base w0 W) (hbase : base ≤ W.heap.size)
    (h : ∀ v1 w1, Kd.V (Kd.int .u8) e w1 base (fun k_ => W.heap.size ≤ k_) v1 xs → Below base w0 w1 → W.grownBy w1 none → (∃ b, v1.ownBlock = some b ∧ W.heap.size ≤ b) → wpList P ops Q rest (a.put o.dst v1) w1) : wpList P ops Q (o :: rest) a (W.alloc (.cells inner e)) := by
  refine Kd.event_run hgd hrun (h _ _ (cells_V (g := W.heap.size) (heap_alloc_new W _) hin hm (Nat.le_refl _) _ (Nat.le_refl _)) (HB.alloc hbase _) (World.grownBy_alloc W _ none) ⟨W.heap.size, by simp [Value.ownBlock], Nat.le_refl _⟩)
end
end Go.Proofs.YtiledjckdnkjgaaDoor.Pr
