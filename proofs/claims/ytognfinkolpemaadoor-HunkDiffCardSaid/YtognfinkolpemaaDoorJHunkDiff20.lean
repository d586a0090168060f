/- Part 20 of the proof of HunkDiff: texts put together. -/
import Derived.Test.YtognfinkolpemaaDoorJHunkDiff1
import Derived.Test.YtognfinkolpemaaDoorJHunkDiff16
import Derived.Test.YtognfinkolpemaaDoorJHunkDiff17
import Derived.Test.YtognfinkolpemaaDoorJHunkDiff18
import Derived.Test.YtognfinkolpemaaDoorJHunkDiff19
import Derived.Deep.Slices
import Derived.ChangeSame
import Derived.SizedLaws
set_option linter.unusedVariables false
set_option linter.unusedSimpArgs false
section
namespace Go.Proofs.YtognfinkolpemaaDoor.Pr
open Go.RowKit Go.Proofs.YtognfinkolpemaaDoorW.PrintWords Go.Proofs.YtognfinkolpemaaDoorW.PrintLast Go.Proofs.YtognfinkolpemaaDoorW.PrintMore
theorem fit15_ev (a b : List ByteArray) (ha : a.length ≤ 9000000000000000000) (hb : b.length ≤ 9000000000000000000) :
  (Ev (fun k => sidinglaw15_fit.f k a b) false) ∨ (Ev (fun k => sidinglaw15_fit.f k a b) true ∧ bothErr a b = 0 ∧ tiny a ∧ tiny b) := by
 unfold sidinglaw15_fit.f sidinglaw15_long.f
 cases h1 : longOf a with
 | true =>
  exact .inl (Ev.bd (a := true) (Ev.bd (long_ev a ha) (by rw [h1]; exact Ev.pos rfl (Ev.now _))) (Ev.pos rfl (Ev.now _)))
 | false =>
  have e1 : Ev (fun k => (sidingref13_Long.f k a).bind fun t102 => (if t102 = true then (some true) else ((sidingref13_Long.f k b).bind fun t103 => (some t103)))) (longOf b) := Ev.bd (long_ev a ha) (by rw [h1]; exact Ev.neg (by decide) (Ev.bd (long_ev b hb) (Ev.now _)))
  cases h2 : longOf b with
  | true =>
   rw [h2] at e1
   exact .inl (Ev.bd e1 (Ev.pos rfl (Ev.now _)))
  | false =>
   rw [h2] at e1
   obtain ⟨la, ta⟩ := longOf_tiny h1
   obtain ⟨lb, tb⟩ := longOf_tiny h2
   by_cases h : bothErr a b = 0
   ·exact .inr ⟨Ev.bd e1 (Ev.neg (by decide) (Ev.bd (both_ev a b ta tb) (Ev.rt (by simp [h])))), h, ta, tb⟩
   ·exact .inl (Ev.bd e1 (Ev.neg (by decide) (Ev.bd (both_ev a b ta tb) (Ev.rt (by simp [h])))))
theorem plainL_tiny {l : List ByteArray} (h : plainL l = true) : tiny l := by
 unfold plainL at h
 rw [any_wide, Bool.and_eq_true, Bool.not_eq_true', Bool.or_eq_false_iff] at h
 intro s hs
 have h2 := List.any_eq_false.1 h.2.1 s hs
 have h3 : ¬ 2000 < s.size := fun hn => h2 (decide_eq_true hn)
 omega
theorem check_tiny {l : List S36} (h : checkL l = 0) : ∀ x ∈ l, tinyH x := by
 intro x hx
 obtain ⟨_, _, v3, v4, v5, v6, _⟩ := validH_true (chk_valid (checkL_zero h).2 x hx)
 exact ⟨plainL_tiny v3, plainL_tiny v4, by omega, by omega⟩
theorem check_sizes {l : List S36} (h : checkL l = 0) : l.length ≤ 40 ∧ (∀ x ∈ l, 0 ≤ x.f0 ∧ x.f0 ≤ 1000000 ∧ x.f1.length ≤ 1000000) ∧ (∀ x ∈ l, x.f1.length ≤ 1000 ∧ x.f2.length ≤ 1000) ∧ (∀ x ∈ l, x.f2.length ≤ 1000) := by
 obtain ⟨h1, h2⟩ := checkL_zero h
 refine ⟨h1, fun x hx => ?_, fun x hx => ?_, fun x hx => ?_⟩ <;>
 ·obtain ⟨v1, v2, _, _, v5, v6, _⟩ := validH_true (chk_valid h2 x hx)
  omega
end Go.Proofs.YtognfinkolpemaaDoor.Pr
end
section
namespace Go.Proofs.YtognfinkolpemaaDoor.Pr
open Go.RowKit Go.Proofs.YtognfinkolpemaaDoorW.PrintWords Go.Proofs.YtognfinkolpemaaDoorW.PrintLast Go.Proofs.YtognfinkolpemaaDoorW.PrintMore
theorem distance_ev (a b : List ByteArray) (ha : small a) (hb : small b) : Ev (fun n => lcs_Distance.f n a b) (if bothErr a b = 0 then (((a.length + b.length - 2 * lcsLen a b : Nat) : Int), (0 : Int)) else ((0 : Int), bothErr a b)) := by
 unfold lcs_Distance.f
 refine Ev.bd (length_ev a b ha hb) ?_
 by_cases h : bothErr a b = 0
 ·rw [if_pos h, if_pos h]
  obtain ⟨h1, h2⟩ := bothErr_zero.1 h
  obtain ⟨l1, _⟩ := linesErr_zero h1
  obtain ⟨l2, _⟩ := linesErr_zero h2
  have g1 := lcsLen_le_left a b
  have g2 := lcsLen_le_right a b
  refine Ev.pos rfl (Ev.rt ?_)
  rw [w64 (x := (a.length : Int) + (b.length : Int)) (by omega), w64 (x := 2 * (lcsLen a b : Int)) (by omega), w64 (by omega)]
  simp only [Prod.mk.injEq, and_true]
  omega
 ·simp only [if_neg h]
  exact Ev.rt rfl
end Go.Proofs.YtognfinkolpemaaDoor.Pr
end
section
namespace Go.Proofs.YtognfinkolpemaaDoor.Pure
open Go Go.RowKit Go.Proofs.YtognfinkolpemaaDoor.Pr Go.Proofs.YtognfinkolpemaaDoorW.PrintWords Go.Proofs.YtognfinkolpemaaDoorW.PrintLast Go.Proofs.YtognfinkolpemaaDoorW.PrintMore
theorem dsum_loop (a b : List ByteArray) (l : List S36) (D : Int) (hl : l.length ≤ 1000) (hv : ∀ x ∈ l, x.f1.length ≤ 1000 ∧ x.f2.length ≤ 1000) (r : Bool) : ∀ (d i n : Nat), i + d = l.length → n ≤ 2000 * i →
  Ev (fun k => sidinglaw15_HunkDiff.l0 k a b true l D ((n + hsum (l.drop i) : Nat) : Int) (l.length : Int)) r → Ev (fun k => sidinglaw15_HunkDiff.l0 k a b true l D (n : Int) (i : Int)) r := by
 intro d
 induction d with
 | zero =>
  intro i n hi hn he
  obtain rfl : i = l.length := by omega
  rw [List.drop_length] at he
  exact he
 | succ d ih =>
  intro i n hi hn he
  have h : i < l.length := by omega
  obtain ⟨v1, v2⟩ := hv _ (List.getElem_mem h)
  refine Ev.step (fun k => by rw [sidinglaw15_HunkDiff.l0]) ?_
  refine Ev.pos (by omega) (Ev.pos (by omega) ?_)
  rw [rd_h _ _ h, w64 (x := ((l[i].f1.length : Int) + (l[i].f2.length : Int))) (by omega), w64 (by omega), w64 (by omega)]
  refine Ev.eq rfl (ih (i + 1) (n + (l[i].f1.length + l[i].f2.length)) (by omega) (by omega) ?_)
  rw [drop_at l i h] at he
  rw [show n + (l[i].f1.length + l[i].f2.length) + hsum (l.drop (i + 1)) = n + hsum (l[i] :: l.drop (i + 1)) by rw [show hsum (l[i] :: l.drop (i + 1)) = l[i].f1.length + l[i].f2.length + hsum (l.drop (i + 1)) from rfl]; omega]
  exact he
theorem HunkDiff : sidinglaw15_HunkDiff.Pure := by
 intro a b wa wb
 have main : Ev (fun k => sidinglaw15_HunkDiff.f k a b) true := by
  unfold sidinglaw15_HunkDiff.f
  refine Ev.bc (a := true) rfl ?_
  rcases fit15_ev a b (by omega) (by omega) with h | ⟨h, h0, ta, tb⟩
  ·refine Ev.bd h (Ev.neg (by decide) (Ev.step (fun k => by rw [sidinglaw15_HunkDiff.j0]) ?_))
   exact Ev.pos rfl (Ev.now _)
  ·refine Ev.bd h (Ev.pos rfl (Ev.step (fun k => by rw [sidinglaw15_HunkDiff.j0]) ?_))
   obtain ⟨z1, z2⟩ := bothErr_zero.1 h0
   have l1 := linesErr_len z1
   have l2 := linesErr_len z2
   have d1 := diff_ev a b ta.small tb.small
   have d2 := distance_ev a b ta.small tb.small
   rw [if_pos h0] at d1 d2
   have hc := diff_check h0
   have hf := diff_fits a b (bestOf a b) 0 0 (bestOf_greedy a b).match (Nat.zero_le _)
   have hap := diff_appl a b
   have hem := diff_empty h0
   have hds := diff_dist a b
   obtain ⟨L, hL⟩ : ∃ L, L = diffL a b 0 0 (bestOf a b) := ⟨_, rfl⟩
   rw [← hL] at d1 hc hf hap hem hds
   obtain ⟨c1, c2, c3, c4⟩ := check_sizes hc
   have d3 := hcheck_ev L
   have d4 := rcheck_ev L (check_tiny hc)
   rw [hc] at d3 d4
   have d5 := fits_ev a L (by omega) (by omega) c2
   rw [hf] at d5
   refine Ev.neg (by decide) (Ev.bd d1 (Ev.bd d2 (Ev.pos rfl (Ev.pos rfl (Ev.bd d3 (Ev.pos rfl (Ev.bd d4 (Ev.pos rfl (Ev.bd d5 ?_)))))))))
   refine Ev.step (fun k => by rw [sidinglaw15_HunkDiff.j1]) (Ev.neg (by decide) ?_)
   refine dsum_loop a b L _ (by omega) c3 true L.length 0 0 (by omega) (by omega) ?_
   rw [List.drop_zero, Nat.zero_add, hds]
   refine Ev.step (fun k => by rw [sidinglaw15_HunkDiff.l0]) (Ev.neg (by omega) (Ev.pos rfl ?_))
   have hord : inOrd a 0 L (L.map (·.f0)) := inOrd_of (checkL_zero hc).2 hf (Int.le_refl _) (Nat.zero_le _)
   have d6 := applied_ev a L (by omega) (by omega) c4 hord
   rw [hap] at d6
   refine Ev.bd d6 (Ev.bd (same_ev b b (by omega)) (Ev.pos (by simp) (Ev.bd (same_ev a b (by omega)) (Ev.pos ?_ (Ev.rt (by simp))))))
   by_cases hab : a = b
   ·rw [decide_eq_true hab, hem.2 hab]
    rfl
   ·rw [decide_eq_false hab]
    have : L.length ≠ 0 := fun e => hab (hem.1 (List.eq_nil_of_length_eq_zero e))
    rw [beq_eq_false_iff_ne.2 (by omega : (L.length : Int) ≠ 0)]
    rfl
 obtain ⟨k, hk⟩ := main.rounds
 exact ⟨k, hk⟩
end Go.Proofs.YtognfinkolpemaaDoor.Pure
end
section
namespace Go.Proofs.YtognfinkolpemaaDoorW.PrintWords
open Go Go.ChangeShapes Go.WideShapes Go.Deep
structure Rdb {α : Type} (P : Program) (t : TypeId) (d : Kd α) (wf : α → Prop) : Prop where
 cells : P.cellsOf t = d.sz
 rd : ∀ {H : Type} {enc : TypeId × Value → H} {w : World} {base : Nat} {spare : Nat → Bool} {held : Bool} {fuel : Nat} {cs : List Value} {x : DataW H × List MemPlace},
  DataW.trod enc P w base spare held fuel t cs = some x → (∀ n ∈ x.1.weights P t, n ≤ 140737488351232) → ∃ v, d.K w v cs ∧ wf v
theorem Rdb.int {P : Program} {t : TypeId} {k : IntKind} (ht : P.underlying t = some (.int k)) (hc : P.cellsOf t = 1) : Rdb P t (Kd.int k) (fun x => (Lit.int k x).wf = true) :=
 ⟨hc, fun h _ => by
  obtain ⟨n, rfl, _, hw⟩ := DataW.trod_int ht h
  exact ⟨n, rfl, hw⟩⟩
theorem Rdb.bool {P : Program} {t : TypeId} (ht : P.underlying t = some .bool) (hc : P.cellsOf t = 1) : Rdb P t Kd.bool (fun _ => True) :=
 ⟨hc, fun h _ => by
  obtain ⟨b, rfl, _⟩ := DataW.trod_bool ht h
  exact ⟨b, rfl, trivial⟩⟩
theorem Rdb.string {P : Program} {t : TypeId} (ht : P.underlying t = some .string) (hc : P.cellsOf t = 1) : Rdb P t Kd.string (fun s => s.size ≤ 140737488351232) :=
 ⟨hc, fun h hz => by
  obtain ⟨s, rfl, rfl, _⟩ := DataW.trod_string ht h
  refine ⟨s, rfl, ?_⟩
  have := hz s.data.toList.length (by simp [DataW.weights])
  rwa [data_length] at this⟩
theorem weightsAll_mem {H : Type} {P : Program} {e : TypeId} {d : DataW H} : ∀ {l : List (DataW H)}, d ∈ l → ∀ n ∈ d.weights P e, n ∈ DataW.weightsAll P e l
 | a :: l, hd, n, hn => by
  rcases List.mem_cons.1 hd with rfl | hd
  ·simp only [DataW.weightsAll, List.mem_append]
   exact .inl hn
  ·simp only [DataW.weightsAll, List.mem_append]
   exact .inr (weightsAll_mem hd n hn)
theorem cells_at {w : World} {base : Nat} {a : Addr} {n : Nat} {cs : List Value} (h : w.cells? base a n = some cs) : cs.length = n ∧ ∀ i u, cs[i]? = some u → w.cell? (a.add i) = some u := by
 unfold World.cells? at h
 split at h
 ·have hl := mapM_some_length h
  rw [List.length_range] at hl
  refine ⟨hl, fun i u hu => ?_⟩
  have hi : i < n := by
   have := (List.getElem?_eq_some_iff.1 hu).1
   omega
  have := mapM_some_get h i i (by simp [hi])
  rw [this, hu]
 ·cases h
theorem Rdb.slice {α : Type} [Inhabited α] {P : Program} {t e : TypeId} {d : Kd α} {wf : α → Prop} {B : Nat} (ht : P.underlying t = some (.slice e)) (hc : P.cellsOf t = 1) (hB : P.bytesOf e = B) (h : Rdb P e d wf) :
  Rdb P t (Kd.slice e d) (fun xs => xs.length * B ≤ 140737488351232 ∧ ∀ x ∈ xs, wf x) :=
 ⟨hc, fun {H enc w base spare held fuel cs x} hx hz => by
  rcases open_slice ht hx with ⟨rfl, _⟩ | ⟨a, len, cap, m, n, D, Pl, rfl, hb, hl, hm, hmm, rfl, hel⟩
  ·exact ⟨[], ⟨none, 0, rfl, Nat.le_refl _, rfl, by simp, fun hp => absurd hp (by simp)⟩, by simp, by simp⟩
  ·have hlm : len ≤ m := by
    rw [hmm]
    split
    ·exact hl
    ·exact Nat.le_refl _
   have hw : ∀ i, i < len → ∀ n ∈ (D i).weights P e, n ≤ 140737488351232 := by
    intro i hi n hn
    apply hz n
    simp only [DataW.weights, ht, List.mem_cons, List.mem_append]
    exact .inr (.inl (weightsAll_mem (List.mem_map.2 ⟨i, List.mem_range.2 hi, rfl⟩) n hn))
   have hlen : len * B ≤ 140737488351232 := by
    have := hz ((((List.range len).map D).length + ((List.range (m - len)).map fun j => D (len + j)).length) * P.bytesOf e) (by simp [DataW.weights, ht])
    rw [hB] at this
    simp only [List.length_map, List.length_range] at this
    exact Nat.le_trans (Nat.mul_le_mul_right _ (by omega)) this
   obtain ⟨V, hV⟩ := choose_lt (α := α) (n := len) (p := fun i v => ∃ c, c.length = d.sz ∧ d.K w v c ∧ (∀ j u, c[j]? = some u → w.cell? (a.add (i * d.sz + j)) = some u) ∧ wf v) (by
    intro i hi
    obtain ⟨cs', h1, h2⟩ := hel i (by omega)
    obtain ⟨v, hK, hwf⟩ := h.rd h2 (hw i hi)
    obtain ⟨_, hcell⟩ := cells_at h1
    refine ⟨v, cs', d.K_len hK, hK, fun j u hu => ?_, hwf⟩
    have := hcell j u hu
    rwa [h.cells, add_add] at this)
   refine ⟨(List.range len).map V, ⟨some a, cap, by simp, by simpa using hl, rfl, by simp; simp only [maxLen] at hm; omega, fun hp => ⟨a, rfl, fun j p hj => ?_⟩⟩, by simpa using hlen, ?_⟩
   ·have hjl : j < len := by
     have := (List.getElem?_eq_some_iff.1 hj).1
     simpa using this
    have : p = V j := by
     simp [hjl] at hj
     exact hj.symm
    subst this
    obtain ⟨c, h1, h2, h3, _⟩ := hV j hjl
    exact ⟨c, h1, h2, h3⟩
   ·intro p hp
    obtain ⟨i, hi, rfl⟩ := List.mem_map.1 hp
    obtain ⟨_, _, _, _, h4⟩ := hV i (List.mem_range.1 hi)
    exact h4⟩
def RdF {α : Type} (P : Program) (fs : List Field) (off : Nat) (d : Kd α) (wf : α → Prop) : Prop :=
 ∀ {H : Type} {enc : TypeId × Value → H} {w : World} {base : Nat} {spare : Nat → Bool} {held : Bool} {fuel : Nat} {cs : List Value} {xs : List (DataW H × List MemPlace)},
  (∀ (i : Nat) (f : Field), fs[i]? = some f → DataW.trod enc P w base spare held fuel f.type ((cs.drop f.offset).take (P.cellsOf f.type)) = xs[i]?) → xs.length = fs.length → cs.length = off + d.sz →
  (∀ n ∈ DataW.weightsEach P (fs.map (·.type)) (xs.map (·.1)), n ≤ 140737488351232) → ∃ v, d.K w v (cs.drop off) ∧ wf v
theorem RdF.last {α : Type} {P : Program} {f : Field} {off : Nat} {d : Kd α} {wf : α → Prop} (ho : f.offset = off) (h : Rdb P f.type d wf) : RdF P [f] off d wf := by
 intro H enc w base spare held fuel cs xs hf hl hc hz
 match xs, hl with
 | [x], _ =>
  have h1 := hf 0 f rfl
  rw [ho, h.cells, List.take_of_length_le (by rw [List.length_drop]; omega)] at h1
  exact h.rd h1 (fun n hn => hz n (by simp [DataW.weightsEach, hn]))
theorem RdF.cons {α β : Type} {P : Program} {f : Field} {fs : List Field} {off : Nat} {a : Kd α} {b : Kd β} {wa : α → Prop} {wb : β → Prop} (ho : f.offset = off) (h : Rdb P f.type a wa) (hr : RdF P fs (off + a.sz) b wb) : RdF P (f :: fs) off (Kd.pair a b) (fun x => wa x.1 ∧ wb x.2) := by
 intro H enc w base spare held fuel cs xs hf hl hc hz
 match xs, hl with
 | x :: xs, hl =>
  have hsz : (Kd.pair a b).sz = a.sz + b.sz := rfl
  have h1 := hf 0 f rfl
  rw [ho, h.cells] at h1
  obtain ⟨v, hv, hwv⟩ := h.rd h1 (fun n hn => hz n (by simp [DataW.weightsEach, hn]))
  obtain ⟨u, hu, hwu⟩ := hr (cs := cs) (xs := xs) (fun i g hg => by simpa using hf (i + 1) g (by simpa using hg)) (by simpa using hl) (by rw [hc, hsz]; omega) (fun n hn => hz n (by simp only [List.map_cons, DataW.weightsEach, List.mem_append]; exact .inr hn))
  refine ⟨(v, u), ⟨_, _, ?_, hv, hu⟩, hwv, hwu⟩
  rw [← List.drop_drop, List.take_append_drop]
theorem Rdb.struct {α β : Type} {P : Program} {t : TypeId} {fs : Array Field} {d : Kd α} {wf : α → Prop} (f : β → α) (g : α → β) (hfg : ∀ x, f (g x) = x) (ht : P.underlying t = some (.struct fs)) (hc : P.cellsOf t = d.sz) (h : RdF P fs.toList 0 d wf) :
  Rdb P t (Kd.iso d f) (fun x => wf (f x)) :=
 ⟨hc, fun hx hz => by
  obtain ⟨xs, n, _, rfl, hl, hlen, hf⟩ := DataW.trod_struct ht hx
  obtain ⟨v, hv, hw⟩ := h (xs := xs) (fun i f hi => hf i f (by simpa using hi)) (by simpa using hlen) (by rw [hl, hc, Nat.zero_add]) (fun n hn => hz n (by simpa [DataW.weights, ht] using hn))
  refine ⟨g v, ?_, ?_⟩
  ·show d.K _ (f (g v)) _
   rw [hfg]
   simpa using hv
  ·rw [hfg]
   exact hw⟩
theorem Rdb.top {α : Type} {H : Type} {enc : TypeId × Value → H} {P : Program} {W : World} {base : Nat} {spare : Nat → Bool} {held : Bool} {t e : TypeId} {d : Kd α} {wf : List α → Prop} {a : Option Addr} {len cap : Nat} {dd : DataW H} {ps : List MemPlace} {ts : List TypeId} {ds : List (DataW H)} {j : Nat}
  (R : Rdb P t (Kd.slice e d) wf) (hsz : (DataW.weightsEach P ts ds).all (· ≤ reachBytes) = true) (ht : ts[j]? = some t) (hd : ds[j]? = some dd)
  (h : DataW.Trod enc P W base spare held t (.slice a len cap) dd ps) : ∃ l : List α, len = l.length ∧ d.C W a l.length l ∧ l.length ≤ cap ∧ wf l := by
 obtain ⟨fuel, hf⟩ := h
 obtain ⟨l, ⟨A, c, he, hl, hC⟩, hw⟩ := R.rd hf (fun n hn => by
  have := List.all_eq_true.1 hsz _ (DataW.weights_mem_each ht hd n hn)
  exact of_decide_eq_true this)
 simp [Value.cells] at he
 obtain ⟨rfl, rfl, rfl⟩ := he
 exact ⟨l, rfl, hC, hl, hw⟩
end Go.Proofs.YtognfinkolpemaaDoorW.PrintWords
end
