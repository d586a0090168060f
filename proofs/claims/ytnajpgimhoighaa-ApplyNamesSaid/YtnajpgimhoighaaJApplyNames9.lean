/- Part 9 of the proof of ApplyNames: texts put together. -/
import Derived.Test.YtnajpgimhoighaaJApplyNames5
import Derived.Test.YtnajpgimhoighaaJApplyNames6
import Derived.RangeFuncNested
import Derived.RangeFuncBound
import Derived.RangeFuncCalls
import Derived.RangeFuncLeaves
import Derived.Shelf.Abstract
import Derived.Shelf.RegionOpen
import Derived.WalkKit
import Derived.OwnWalkIn
import Derived.TacticsInMore
import Derived.LoopNIn
import Derived.LoopIn
import Derived.Test.YtnajpgimhoighaaProg
import Derived.Scope
import Derived.Maps.AppendAt
section
namespace Go.Proofs.Ytnajpgimhoighaa.Near
open Go Go.RowKit Go.Shelf
attribute [local go_sem] Oper.semAt_some
set_option linter.unusedVariables false
set_option linter.unusedSimpArgs false
def upto (k : Nat) : List Int := 0 :: (List.range k).flatMap fun i : Nat => [-((i : Int) + 1), (i : Int) + 1]
theorem upto_succ (k : Nat) : upto (k + 1) = upto k ++ [-((k : Int) + 1)] ++ [(k : Int) + 1] := by
  simp [upto, List.range_succ, List.flatMap_append]
theorem upto_zero : upto 0 = [0] := rfl
theorem upto_length (k : Nat) : (upto k).length = 2 * k + 1 := by
  induction k with
  | zero => rfl
  | succ k ih => rw [upto_succ]; simp [ih]; omega
theorem upto_pre {k n : Nat} (h : k ≤ n) : upto k <+: upto n := by
  induction n with
  | zero => obtain rfl : k = 0 := by omega
            exact List.prefix_refl _
  | succ n ih =>
    by_cases e : k = n + 1
    · subst e; exact List.prefix_refl _
    · refine (ih (by omega)).trans ?_
      rw [upto_succ, List.append_assoc]
      exact List.prefix_append _ _
theorem upto_mid {k n : Nat} (h : k + 1 ≤ n) : upto k ++ [-((k : Int) + 1)] <+: upto n := by
  refine List.IsPrefix.trans ?_ (upto_pre h)
  rw [upto_succ]
  exact List.prefix_append _ _
theorem mem_upto {x : Int} {R : Nat} (h : x.natAbs ≤ R) : x ∈ upto R := by
  simp only [upto, List.mem_cons, List.mem_flatMap, List.mem_range]
  by_cases h0 : x = 0
  · exact .inl h0
  · refine .inr ⟨x.natAbs - 1, by omega, ?_⟩
    simp only [List.mem_cons, List.not_mem_nil, or_false]
    omega
abbrev NearI (R : Nat) : Type := { x : Int // x.natAbs ≤ R }
theorem pre_of_map {R : Nat} {pre : List (NearI R)} {l : List Int} (h : pre.map (·.1) = l) (hl : l <+: upto R) : pre.map (·.1) <+: upto R := h ▸ hl
set_option maxRecDepth 100000 in
set_option maxHeartbeats 2000000 in
theorem near1_in (F : Fence) (n : Nat) (hF : F.fn 42) (hro : F.round = none) (hn : 1 ≤ n) (l Bn n₀ : Nat) (hBlt : Bn < n₀) (R : Nat) (hR : R ≤ 20) (J Jx : List (NearI R) → World → Prop)
    (hY : ∀ pre x W, J pre W → pre.length < 2 * R + 1 → YieldAt F (n - 1) Try.prog l #[.int .i64 x.1] W fun e W' =>
      (e = .returned (.bool true) ∧ J (pre ++ [x]) W' ∧ Below n₀ W W') ∨ (e = .returned (.bool false) ∧ Jx (pre ++ [x]) W'))
    (W : World) (hBn : W.cell? ⟨Bn, 0, none⟩ = some (.int .i64 (R : Int))) (h0 : J [] W) :
    CallsIn F n Try.prog 42 #[.func (.yield l) #[] #[], .pointer (some ⟨Bn, 0, none⟩)] W fun e W' => (∃ v, e = .returned v) ∧
      ((∃ ys, ys.map (·.1) = upto R ∧ J ys W') ∨ (∃ pre, pre.map (·.1) <+: upto R ∧ Jx pre W')) := by
  refine callsIn_of_wp Try.func42 rfl hF ?_ hro
  simp only [Try.ntmps42, List.size_toArray, List.length_cons, List.length_nil, Nat.reduceAdd, Nat.reduceSub, Array.replicate_succ, Array.replicate_zero, List.push_toArray, List.append_toArray, List.nil_append, List.cons_append]
  obtain ⟨fn0, tmps0, assign0, body0, hy0, hR0⟩ := hY [] ⟨0, by simp⟩ W h0 (by simp)
  dsimp only at hy0
  gi_wp2
  refine hR0.mono ?_
  rintro e W1 (⟨rfl, hJ1, hk1⟩ | ⟨rfl, hJx1⟩)
  · have hB1 : W1.cell? ⟨Bn, 0, none⟩ = some (.int .i64 (R : Int)) := (hk1.cell (p := ⟨Bn, 0, none⟩) hBlt).trans hBn
    gi_wp2
    gi_loopw [3] (fun d wr => ∃ (k : Nat) (pre : List (NearI R)), d = .int .i64 ((k : Int) + 1) ∧ k ≤ R ∧ pre.map (·.1) = upto k ∧ J pre wr ∧ wr.cell? ⟨Bn, 0, none⟩ = some (.int .i64 (R : Int)))
      (fun d wr => R + 1 - (intOf d).toNat)
    case atStart => exact ⟨0, _, rfl, Nat.zero_le _, rfl, hJ1, hB1⟩
    case round =>
      obtain ⟨k, pre, rfl, hk, hpre, hJk, hBk⟩ := hrel
      have hpl : pre.length = 2 * k + 1 := by rw [← upto_length, ← hpre, List.length_map]
      by_cases hlt : (k : Int) + 1 ≤ (R : Int)
      · obtain ⟨fn1, tmps1, assign1, body1, hy1, hR1⟩ := hY pre ⟨-((k : Int) + 1), by omega⟩ wr hJk (by omega)
        dsimp only at hy1
        have hneg : wrap64 (-((k : Int) + 1)) = -((k : Int) + 1) := by unfold wrap64; omega
        gi_wp2
        refine hR1.mono ?_
        rintro e W2 (⟨rfl, hJ2, hk2⟩ | ⟨rfl, hJx2⟩)
        · have hB2 : W2.cell? ⟨Bn, 0, none⟩ = some (.int .i64 (R : Int)) := (hk2.cell (p := ⟨Bn, 0, none⟩) hBlt).trans hBk
          obtain ⟨fn2, tmps2, assign2, body2, hy2, hR2⟩ := hY (pre ++ [⟨-((k : Int) + 1), by omega⟩]) ⟨(k : Int) + 1, by omega⟩ W2 hJ2 (by rw [List.length_append, List.length_singleton]; omega)
          dsimp only at hy2
          gi_wp2
          refine hR2.mono ?_
          rintro e W3 (⟨rfl, hJ3, hk3⟩ | ⟨rfl, hJx3⟩)
          · have hB3 : W3.cell? ⟨Bn, 0, none⟩ = some (.int .i64 (R : Int)) := (hk3.cell (p := ⟨Bn, 0, none⟩) hBlt).trans hB2
            gi_wp2
            go_roundw
            case rel => exact ⟨k + 1, _, by go_num, by omega, by rw [upto_succ, ← hpre]; simp, hJ3, hB3⟩
            case measure => simp [intOf]; omega
          · gi_wp2
            refine bodyPost_ret (results_none rfl _ _ _) rfl ?_
            exact ⟨⟨_, rfl⟩, .inr ⟨_, pre_of_map (by rw [List.map_append, List.map_append, hpre]; exact (upto_succ k).symm) (upto_pre (k := k + 1) (by omega)), hJx3⟩⟩
        · gi_wp2
          refine ⟨fun _ h => (by cases h), ?_⟩
          gi_wp2
          refine bodyPost_ret (results_none rfl _ _ _) rfl ?_
          exact ⟨⟨_, rfl⟩, .inr ⟨_, pre_of_map (by rw [List.map_append, hpre]; rfl) (upto_mid (k := k) (by omega)), hJx2⟩⟩
      · obtain rfl : k = R := by omega
        gi_wp2
        go_end0
        exact ⟨⟨_, rfl⟩, Or.inl ⟨pre, hpre, hJk⟩⟩
  · gi_wp2
    refine bodyPost_ret (results_none rfl _ _ _) rfl ?_
    exact ⟨⟨_, rfl⟩, .inr ⟨_, pre_of_map (l := upto 0) rfl (upto_pre (Nat.zero_le _)), hJx1⟩⟩
theorem near1_stops (F : Fence) (n : Nat) (hF : F.fn 42) (hro : F.round = none) (hn : 1 ≤ n) (Bn n₀ : Nat) (hBlt : Bn < n₀) (R : Nat) (hR : R ≤ 20) (w : World) (hn₀ : n₀ ≤ w.heap.size)
    (hc : w.cell? ⟨Bn, 0, none⟩ = some (.int .i64 (R : Int))) :
    SeqStopsK F n Try.prog 42 #[.pointer (some ⟨Bn, 0, none⟩)] (fun x : NearI R => #[Value.int .i64 x.1]) (Below n₀) (fun ys => ys.map (·.1) = upto R) (fun pre => pre.map (·.1) <+: upto R) (2 * R + 1) w := fun l J Jx W hW _ _ hY h0 =>
  near1_in F n hF hro hn l Bn n₀ hBlt R hR J Jx hY W ((hW.cell (p := ⟨Bn, 0, none⟩) (by show Bn < w.heap.size; omega)).trans hc) h0
set_option maxHeartbeats 1000000 in
theorem near_in (F : Fence) (n : Nat) (hF : F.fn 32) (hro : F.round = none) (r : Int) (w : World) :
    CallsIn F n Try.prog 32 #[.int .i64 r] w fun e w' => e = .returned (.func (.func 42) #[] #[.pointer (some ⟨w.heap.size, 0, none⟩)]) ∧ w' = w.alloc (.cells #[.int .i64 r] 3) := by
  refine callsIn_of_wp Try.func32 rfl hF ?_ hro
  simp only [Try.ntmps32, List.size_toArray, List.length_cons, List.length_nil, Nat.reduceAdd, Nat.reduceSub, Array.replicate_succ, Array.replicate_zero, List.push_toArray, List.append_toArray, List.nil_append, List.cons_append]
  gi_wp2
  go_ret
  exact ⟨rfl, rfl⟩
end Go.Proofs.Ytnajpgimhoighaa.Near
end
section
namespace Go.Proofs.Ytnajpgimhoighaa.Pr
open Go.RowKit Go.Shelf Go.Proofs.YtnajpgimhoighaaW.PrintWords Go.Proofs.YtnajpgimhoighaaW.PrintLast Go.Proofs.YtnajpgimhoighaaW.PrintMore Go.Proofs.Ytnajpgimhoighaa.Near
attribute [local go_sem] Oper.semAt_some
set_option linter.unusedVariables false
set_option linter.unusedSimpArgs false
def moved.fit (k : Nat) (a : List ByteArray) (h : S46) (e off d : Int) : Option Bool :=
  if wrap64 (wrap64 (h.f0 + off) + d) ≥ e then apply_at.f k a h.f1 (wrap64 (wrap64 (h.f0 + off) + d)) else some false
def moved.scan (k : Nat) (a : List ByteArray) (h : S46) (e off : Int) : List Int → Option Int
  | [] => none
  | d :: ds => if moved.fit k a h e off d = some true then some (wrap64 (wrap64 (h.f0 + off) + d)) else moved.scan k a h e off ds
def moved.find (k : Nat) (a : List ByteArray) (h : S46) (e off : Int) (ds : List Int) : Option (Option Int) :=
  if ds.all (fun d => (moved.fit k a h e off d).isSome) = true then some (moved.scan k a h e off ds) else none
def moved.go (k : Nat) (a : List ByteArray) (R : Nat) : List (S46) → List Int → List Int → Int → Int → Option (Option (List Int × List Int))
  | [], pl, by_, _, _ => some (some (pl, by_))
  | h :: hs, pl, by_, e, off => (moved.find k a h e off (upto R)).bind fun o => match o with
      | none => some none
      | some p => moved.go k a R hs (pl ++ [p]) (by_ ++ [wrap64 (p - h.f0)]) (wrap64 (p + (h.f1.length : Int))) (wrap64 (p - h.f0))
def moved.fin (k : Nat) (l0 : List ByteArray) (l1 : List (S46)) (o : Option (List Int × List Int)) : Option (List ByteArray × List Int × Int) := match o with
  | none => some ([], [], 6)
  | some (pl, by_) => (apply_put.f k l0 l1 pl).bind fun r => if r.2 = 0 then some (r.1, by_, 0) else some ([], [], r.2)
def apply_Moved.f (k : Nat) (l0 : List ByteArray) (l1 : List (S46)) (a2 : Int) : Option (List ByteArray × List Int × Int) :=
  if l1.length < 8796093022208 then (apply_check.f k l0 l1).bind fun e => if e = 0 then (if a2 < 0 ∨ 20 < a2 then some ([], [], 2) else
    (moved.go k l0 a2.toNat l1 [] [] 0 0).bind fun o => moved.fin k l0 l1 o) else some ([], [], e)
  else none
theorem moved.fit_mono (a : List ByteArray) (h : S46) (e off d : Int) (k : Nat) : LeO (moved.fit k a h e off d) (moved.fit (k + 1) a h e off d) :=
  LeO.ite (apply_at.mono _ _ _ _) (LeO.refl _)
theorem moved.scan_eq (k : Nat) (a : List ByteArray) (h : S46) (e off : Int) : ∀ ds, ds.all (fun d => (moved.fit k a h e off d).isSome) = true →
    ds.all (fun d => (moved.fit (k + 1) a h e off d).isSome) = true ∧ moved.scan (k + 1) a h e off ds = moved.scan k a h e off ds
  | [], _ => ⟨rfl, rfl⟩
  | d :: ds, hd => by
    simp only [List.all_cons, Bool.and_eq_true] at hd ⊢
    obtain ⟨h1, h2⟩ := moved.scan_eq k a h e off ds hd.2
    obtain ⟨b, hb⟩ := Option.isSome_iff_exists.1 hd.1
    have hb' := moved.fit_mono a h e off d k b hb
    refine ⟨⟨by rw [hb']; rfl, h1⟩, ?_⟩
    simp only [moved.scan, hb, hb', h2]
theorem moved.find_mono (a : List ByteArray) (h : S46) (e off : Int) (k : Nat) (ds : List Int) : LeO (moved.find k a h e off ds) (moved.find (k + 1) a h e off ds) := by
  intro r hr
  unfold moved.find at hr ⊢
  split at hr
  · rename_i hd
    obtain ⟨h1, h2⟩ := moved.scan_eq k a h e off ds hd
    rw [if_pos h1, h2]
    exact hr
  · cases hr
theorem moved.scan_none (k : Nat) (a : List ByteArray) (h : S46) (e off : Int) : ∀ ds, (∀ d ∈ ds, moved.fit k a h e off d = some false) → moved.scan k a h e off ds = none
  | [], _ => rfl
  | d :: ds, hd => by
    simp only [moved.scan, hd d List.mem_cons_self]
    exact moved.scan_none k a h e off ds (fun x hx => hd x (List.mem_cons_of_mem _ hx))
theorem moved.scan_some (k : Nat) (a : List ByteArray) (h : S46) (e off d : Int) (hf : moved.fit k a h e off d = some true) (rest : List Int) : ∀ ds, (∀ d ∈ ds, moved.fit k a h e off d = some false) →
    moved.scan k a h e off (ds ++ d :: rest) = some (wrap64 (wrap64 (h.f0 + off) + d))
  | [], _ => by simp only [List.nil_append, moved.scan, hf, if_true]
  | x :: ds, hd => by
    simp only [List.cons_append, moved.scan, hd x List.mem_cons_self]
    exact moved.scan_some k a h e off d hf rest ds (fun y hy => hd y (List.mem_cons_of_mem _ hy))
theorem moved.go_mono (a : List ByteArray) (R k : Nat) : ∀ hs pl by_ e off, LeO (moved.go k a R hs pl by_ e off) (moved.go (k + 1) a R hs pl by_ e off)
  | [], _, _, _, _ => LeO.refl _
  | h :: hs, pl, by_, e, off => by
    unfold moved.go
    refine LeO.bind (moved.find_mono _ _ _ _ _ _) (fun o => ?_)
    cases o with
    | none => exact LeO.refl _
    | some p => exact moved.go_mono a R k hs _ _ _ _
theorem apply_Moved.mono : ∀ a0 a1 a2 k, LeO (apply_Moved.f k a0 a1 a2) (apply_Moved.f (k + 1) a0 a1 a2) := by
  intro a0 a1 a2 k
  unfold apply_Moved.f
  refine LeO.ite (LeO.bind (apply_check.mono _ _ _) (fun e => LeO.ite (LeO.ite (LeO.refl _) (LeO.bind (moved.go_mono _ _ _ _ _ _ _ _) (fun o => ?_))) (LeO.refl _))) (LeO.refl _)
  cases o with
  | none => exact LeO.refl _
  | some p => exact LeO.bind (apply_put.mono _ _ _ _) (fun _ => LeO.refl _)
def moved.Post (w : World) (r1 : List ByteArray) (r2 : List Int) (r3 : Int) : Ending → World → Prop := fun e w' =>
  ∃ v0_ v1_ : Value, e = .returned (.tuple #[v0_, v1_, .int .i64 r3]) ∧ Kd.R Kd.string 9 w' w.heap.size (fun _ => True) v0_ r1 ∧ Kd.R (Kd.int .i64) 3 w' w.heap.size (fun _ => True) v1_ r2 ∧ Below w.heap.size w w'
def sameCells (W W' : World) : Prop := ∀ (k : Nat) (cs : Array Value) (t : TypeId) (fz : Nat × Nat), W.heap[k]? = some (.cells cs t fz) → W'.heap[k]? = some (.cells cs t fz)
theorem R_cells {α : Type} {d : Kd α} {e base : Nat} {ok : Nat → Prop} {W W' : World} {v : Value} {xs : List α} (h : d.R e W base ok v xs) (hs : sameCells W W') : d.R e W' base ok v xs :=
  Kd.R_mono (Kd.R_move (Kd.R_bound h) (fun k hk => by obtain ⟨_, _, _, q, _, cells, hc⟩ := hk; rw [hc]; exact hs _ _ _ _ hc)) (fun _ hk => hk.1)
theorem wpListIn_append_at {F : Fence} {n : Nat} {P : Program} (w : World) {ops : Array Oper} {rest : List Oper} {o : Oper} {a : Act} {Q : Exit → Act → World → Prop}
    (hg : o.guard = none) (s x : Operand) (t : TypeId) (hop : o.op = Op.call { callee := Callee.builtin Builtin.append, args := #[s, x], argTypes := #[t, t] })
    (base : Nat) (e : TypeId) (i : TypeInfo) (z : Value) (size bytes : Nat) (h1 : P.underlying t = some (.slice e)) (h2 : P.info? e = some i) (h3 : i.zero = some z) (h4 : i.size = size) (h5 : i.bytes = bytes) (h6 : z.cells.size = size) (h7 : 0 < size)
    (v : Value) (k : Nat) (xs : List Value) (hs : a.eval s = v) (hown : w.ownsRow base e size v k xs) (ad : Addr) (m c : Nat) (news : List Value) (hx : a.eval x = .slice (some ad) m c) (hn : news.length = m * size)
    (hc : ∀ j u, news[j]? = some u → w.cell? (ad.add j) = some u) (h1c : ∀ u ∈ news, u.oneCell' = true) (b1 : k + m ≤ maxLen) (b2 : (k + m) * bytes ≤ 140737488355328) (b3 : base ≤ w.heap.size)
    (hK : ∀ v' w', w'.ownsRow base e size v' (k + m) (xs ++ news) → w.grownBy w' v.ownBlock → (v' = .slice none 0 0 ↔ v = .slice none 0 0 ∧ m = 0) → (v'.ownBlock = v.ownBlock ∨ v'.ownBlock = some w.heap.size) → wpListIn F n P ops Q rest (a.put o.dst v') w') :
    wpListIn F n P ops Q (o :: rest) a w := by
  refine wpListIn_plain hg fun K hK' => ?_
  obtain ⟨v', w', hrun, r1, r2, r3, r4⟩ := run_append_own_at (P := P) w base t o.type e i z size bytes h1 h2 h3 h4 h5 h6 h7 v k xs hown ad m c news hn hc h1c b1 b2 b3
  unfold Oper.wpIn
  refine ⟨?_, ?_⟩
  · simp [Oper.about, hop, resolve, Target.leads, Sem.run_pure]
  · rw [Oper.semAt_plain F _ _ (by rw [hop]; intro c hc'; cases hc')]
    simp [execOp, hop, resolve, invoke, builtin, hs, hx, hrun, Result.andThen]
    exact hK' _ _ (hK v' w' r1 r2 r3 r4)
def noDefers (ops : Array Oper) : Bool := ops.toList.all fun o => match o.op with | .defer _ => false | _ => true
theorem wpAnyIn_inRound {F : Fence} {n : Nat} {P : Program} {md : Region.Mode} {ops : Array Oper} {Q : Exit → Act → World → Prop} (hro : F.round = none) (l : Nat) (hnd : noDefers ops = true) :
    ∀ fuel listed a w, wpAnyIn F n P md ops Q fuel listed a w → wpAnyIn (F.inRound l) n P md ops Q fuel listed a w
  | 0, _, _, _, h => h
  | fuel + 1, listed, a, w, h => by
    refine ⟨h.1, fun i hi => ?_⟩
    have h2 := wpOpIn_mono (fun a w => wpAnyIn_inRound hro l hnd fuel _ a w) (h.2 i hi)
    unfold wpOpIn at h2 ⊢
    cases ho : ops[i]? with
    | none => rw [ho] at h2; exact h2
    | some o =>
      rw [ho] at h2
      dsimp only at h2 ⊢
      have hd : ∀ c, o.op ≠ .defer c := by
        intro c hc
        have hm : o ∈ ops.toList := by
          rw [← Array.getElem?_toList] at ho
          exact List.mem_of_getElem? ho
        have := List.all_eq_true.1 hnd o hm
        rw [hc] at this
        cases this
      split at h2
      · rename_i hw
        rw [if_pos hw]
        unfold Oper.wpIn at h2 ⊢
        rw [Oper.semAt_plain F _ _ hd] at h2
        rw [Oper.semAt_plain (F.inRound l) _ _ hd]
        exact h2
      · rename_i hw
        rw [if_neg hw]
        exact h2
abbrev moved.tmps (A0 : Option Addr) (n0 c0 : Nat) (A1 : Option Addr) (n1 c1 : Nat) (a2 : Int) (ga g : Nat) (u15 u34 u35 u36 u37 u38 u39 u74 : Value) : Array Value :=
  #[Value.slice A0 n0 c0, Value.slice A1 n1 c1, Value.int .i64 a2, Value.pointer (some { block := ga, off := 0 }), undef, undef, Value.slice none 0 0, Value.slice none 0 0, Value.int .i64 0, Value.int .i64 0, Value.pointer (some { block := g, off := 0 }), Value.pointer (some { block := g + 1, off := 0 }), Value.pointer (some { block := g + 1 + 1, off := 0 }), Value.pointer (some { block := g + 1 + 1 + 1, off := 0 }), undef, u15, undef, undef, undef, undef, Value.slice A0 n0 c0, Value.slice A1 n1 c1, Value.int .i64 0, Value.int .i64 0, Value.bool false, undef, Value.int .i64 a2, Value.bool false, Value.bool false, Value.int .i64 a2, Value.bool false, Value.bool false, Value.slice A1 n1 c1, Value.int .i64 (n1 : Int), u34, u35, u36, u37, u38, u39, undef, undef, undef, undef, undef, undef, undef, undef, undef, undef, undef, undef, undef, undef, undef, undef, undef, undef, undef, undef, undef, undef, undef, undef, undef, undef, undef, undef, undef, undef, undef, undef, undef, undef, u74, undef, undef, undef, undef, undef, undef, undef, undef, undef, undef, undef, undef]
abbrev moved.tmps2 (A0 : Option Addr) (n0 c0 : Nat) (A1 : Option Addr) (n1 c1 : Nat) (a2 : Int) (ga g : Nat) (u15 u16 u34 u35 u36 u37 u38 u39 u40 u74 : Value) : Array Value :=
  #[Value.slice A0 n0 c0, Value.slice A1 n1 c1, Value.int .i64 a2, Value.pointer (some { block := ga, off := 0 }), undef, undef, Value.slice none 0 0, Value.slice none 0 0, Value.int .i64 0, Value.int .i64 0, Value.pointer (some { block := g, off := 0 }), Value.pointer (some { block := g + 1, off := 0 }), Value.pointer (some { block := g + 1 + 1, off := 0 }), Value.pointer (some { block := g + 1 + 1 + 1, off := 0 }), undef, u15, u16, undef, undef, undef, Value.slice A0 n0 c0, Value.slice A1 n1 c1, Value.int .i64 0, Value.int .i64 0, Value.bool false, undef, Value.int .i64 a2, Value.bool false, Value.bool false, Value.int .i64 a2, Value.bool false, Value.bool false, Value.slice A1 n1 c1, Value.int .i64 (n1 : Int), u34, u35, u36, u37, u38, u39, u40, undef, undef, undef, undef, undef, undef, undef, undef, undef, undef, undef, undef, undef, undef, undef, undef, undef, undef, undef, undef, undef, undef, undef, undef, undef, undef, undef, undef, undef, undef, undef, undef, undef, u74, undef, undef, undef, undef, undef, undef, undef, undef, undef, undef, undef, undef]
def moved.marks (ds : List Deferred) (n₀ B : Nat) (W : World) : Prop := ∃ Ds : List Nat, ds = Ds.map (fun D => { target := .collected D, args := #[] }) ∧ Ds.Nodup ∧ ∀ D ∈ Ds, n₀ ≤ D ∧ D < B ∧ W.heap[D]? = some (.deferred (some []))
theorem moved.marks.turn {ds : List Deferred} {n₀ B : Nat} {X Y : World} {row : Option Nat} (h : moved.marks ds n₀ B X) (hg : X.grownBy Y row) (hr : ∀ r, row = some r → B ≤ r) : moved.marks ds n₀ B Y := by
  obtain ⟨Ds, e, hn, hD⟩ := h
  exact ⟨Ds, e, hn, fun D hd => ⟨(hD D hd).1, (hD D hd).2.1, (hg.block D (Array.getElem?_eq_some_iff.1 (hD D hd).2.2).1 (fun e' => by have := hr D e'.symm; have := (hD D hd).2.1; omega)).trans (hD D hd).2.2⟩⟩
theorem moved.marks.others {ds : List Deferred} {n₀ B B' : Nat} {X Y : World} (h : moved.marks ds n₀ B X) (hg : KeepsOthers X Y) (hB : B ≤ B') : moved.marks ds n₀ B' Y := by
  obtain ⟨Ds, e, hn, hD⟩ := h
  exact ⟨Ds, e, hn, fun D hd => ⟨(hD D hd).1, by have := (hD D hd).2.1; omega, hg.same D _ (hD D hd).2.2 rfl⟩⟩
theorem moved.marks.cons {ds : List Deferred} {n₀ B D : Nat} {X : World} (h : moved.marks ds n₀ B X) (hD : B ≤ D) (hn : n₀ ≤ D) (hX : X.heap[D]? = some (.deferred (some []))) : moved.marks ({ target := .collected D, args := #[] } :: ds) n₀ (D + 1) X := by
  obtain ⟨Ds, e, hnd, hDs⟩ := h
  refine ⟨D :: Ds, by rw [e]; rfl, List.nodup_cons.2 ⟨fun hm => by have := (hDs D hm).2.1; omega, hnd⟩, fun E hE => ?_⟩
  rcases List.mem_cons.1 hE with rfl | hE
  · exact ⟨hn, by omega, hX⟩
  · exact ⟨(hDs E hE).1, by have := (hDs E hE).2.1; omega, (hDs E hE).2.2⟩
theorem moved.leave {F : Fence} {n : Nat} {P : Program} {fn : Func} {tm : Array Value} {R : Ending → World → Prop} {n₀ : Nat} : ∀ (Ds : List Nat) (W : World), Ds.Nodup → (∀ D ∈ Ds, n₀ ≤ D ∧ W.heap[D]? = some (.deferred (some []))) → n₀ ≤ W.heap.size →
    (∀ W', Below n₀ W W' → sameCells W W' → LeavesIn F n P fn tm R [] .returning W') → LeavesInM F n P fn tm R (Ds.map (fun D => { target := .collected D, args := #[] })) .returning W
  | [], W, _, _, _, h => h W (Below.refl _ _) (fun _ _ _ _ h => h)
  | D :: Ds, W, hn, hD, hs, h => by
    obtain ⟨h1, h2⟩ := hD D List.mem_cons_self
    obtain ⟨hn1, hn2⟩ := List.nodup_cons.1 hn
    have hbel : Below n₀ W (W.putObj D (.deferred none)) := (Below.refl n₀ W).grown (grownBy_putObj' W D _) hs (fun k e => by cases e; exact h1)
    refine ⟨by simp, .inl ⟨_, _, rfl, run_takeDeferred h2, moved.leave Ds _ hn2 (fun E hE => ⟨(hD E (List.mem_cons_of_mem _ hE)).1, ?_⟩) (Nat.le_trans hs hbel.size) (fun W' hb hc => h W' (hbel.trans hb) (fun k cs t fz hk => hc k cs t fz ?_))⟩⟩
    · exact (World.putObj_heap_other (fun e => hn1 (by rw [← e]; exact hE))).trans (hD E (List.mem_cons_of_mem _ hE)).2
    · refine (World.putObj_heap_other (fun e => ?_)).trans hk
      rw [← e, hk] at h2
      cases h2
structure moved.Box (w W : World) (ga g : Nat) (A0 : Option Addr) (n0 c0 : Nat) (pl by_ : List Int) (vp vb : Value) (e off : Int) : Prop where
  ba : Boxed W ga 22 (.slice A0 n0 c0)
  bp : Boxed W g 32 vp
  bb : Boxed W (g + 1) 32 vb
  be : Boxed W (g + 1 + 1) 3 (.int .i64 e)
  bo : Boxed W (g + 1 + 1 + 1) 3 (.int .i64 off)
  rp : W.ownsRow (g + 4) 3 1 vp pl.length (nums .i64 pl)
  rb : W.ownsRow (g + 4) 3 1 vb by_.length (nums .i64 by_)
  ne : vp.ownBlock = none ∨ vp.ownBlock ≠ vb.ownBlock
  bel : Below w.heap.size w W
  sz : g + 4 ≤ W.heap.size
  lt : ga < g
  lw : w.heap.size ≤ ga
theorem moved.Box.turn {w X Y : World} {ga g : Nat} {A0 : Option Addr} {n0 c0 : Nat} {pl by_ : List Int} {vp vb : Value} {e off : Int} (h : moved.Box w X ga g A0 n0 c0 pl by_ vp vb e off) {row : Option Nat} (hg : X.grownBy Y row)
    (hr : ∀ r, row = some r → w.heap.size ≤ r ∧ ∃ o : Obj, X.heap[r]? = some o ∧ o.isCells = false) : moved.Box w Y ga g A0 n0 c0 pl by_ vp vb e off := by
  have bx : ∀ {B t v}, Boxed X B t v → Boxed Y B t v := fun hb => hb.kept hg (fun e' => by
    obtain ⟨_, o, ho, hc⟩ := hr _ e'.symm
    rw [show X.heap[_]? = _ from hb] at ho; cases ho; cases hc)
  have rw_ : ∀ {v : Value} {n : Nat} {xs : List Value}, X.ownsRow (g + 4) 3 1 v n xs → Y.ownsRow (g + 4) 3 1 v n xs := fun {v} {n} {xs} ho => own_other ho hg (by
    cases hb : v.ownBlock with
    | none => exact .inl rfl
    | some b =>
      refine .inr fun e' => ?_
      obtain ⟨_, o, ho', hc⟩ := hr b e'.symm
      obtain ⟨cells, hc'⟩ := own_typed ho b hb
      rw [hc'] at ho'; cases ho'; cases hc)
  exact ⟨bx h.ba, bx h.bp, bx h.bb, bx h.be, bx h.bo, rw_ h.rp, rw_ h.rb, h.ne, h.bel.grown hg h.bel.size (fun k e' => (hr k e').1), Nat.le_trans h.sz hg.size, h.lt, h.lw⟩
theorem moved.Box.below {w X Y : World} {ga g : Nat} {A0 : Option Addr} {n0 c0 : Nat} {pl by_ : List Int} {vp vb : Value} {e off : Int} (h : moved.Box w X ga g A0 n0 c0 pl by_ vp vb e off) {n : Nat} (hn : X.heap.size ≤ n) (hb : Below n X Y) : moved.Box w Y ga g A0 n0 c0 pl by_ vp vb e off := by
  have hb' : Below X.heap.size X Y := hb.mono hn
  have bx : ∀ {B t v}, Boxed X B t v → Boxed Y B t v := fun hq => (hb'.block _ hq.lt).trans hq
  exact ⟨bx h.ba, bx h.bp, bx h.bb, bx h.be, bx h.bo, pw_own_below h.rp hb', pw_own_below h.rb hb', h.ne, h.bel.trans (hb.mono (Nat.le_trans h.bel.size hn)), Nat.le_trans h.sz hb.size, h.lt, h.lw⟩
theorem moved.grown_box {X X1 : World} {tmp : Obj} {g B : Nat} {t : TypeId} {u v : Value} {n : Nat} {xs : List Value} (hb : Boxed X B t u) (ho : X.ownsRow (g + 4) 3 1 v n xs) (hB : B < g + 4) (hg : (X.alloc tmp).grownBy X1 v.ownBlock) : Boxed X1 B t u :=
  (hb.alloc tmp).kept hg (fun e => by have := own_base ho B e.symm; omega)
theorem moved.Box.push {w X X1 : World} {tmp : Obj} {ga g : Nat} {A0 : Option Addr} {n0 c0 : Nat} {pl by_ : List Int} {vp vb v' : Value} {e off y : Int} (h : moved.Box w X ga g A0 n0 c0 pl by_ vp vb e off)
    (hown : X1.ownsRow (g + 4) 3 1 v' (pl.length + 1) (nums .i64 pl ++ [.int .i64 y])) (hg : (X.alloc tmp).grownBy X1 vp.ownBlock) (hat : v'.ownBlock = vp.ownBlock ∨ v'.ownBlock = some (X.alloc tmp).heap.size) :
    Boxed X1 g 32 vp ∧ moved.Box w (X1.setCell ⟨g, 0, none⟩ v') ga g A0 n0 c0 (pl ++ [y]) by_ v' vb e off ∧ KeepsOthers X (X1.setCell ⟨g, 0, none⟩ v') ∧
      (∀ k cs t, X.heap[k]? = some (.cells cs t (0, 0)) → t ≠ 3 → k ≠ g → (X1.setCell ⟨g, 0, none⟩ v').heap[k]? = some (.cells cs t (0, 0))) := by
  have hne : ∀ k, vb.ownBlock = some k → some k ≠ vp.ownBlock := fun k hk e' => by
    rcases h.ne with h0 | h0
    · rw [h0] at e'; cases e'
    · exact h0 (e'.symm.trans hk.symm)
  have hsz := h.sz
  have hlt := h.lt
  have hlw := h.lw
  have hbase : ∀ k, vp.ownBlock = some k → g + 4 ≤ k := own_base h.rp
  refine ⟨moved.grown_box h.bp h.rp (by omega) hg, ⟨(moved.grown_box h.ba h.rp (by omega) hg).other (by omega) _, (moved.grown_box h.bp h.rp (by omega) hg).set _, (moved.grown_box h.bb h.rp (by omega) hg).other (by omega) _, (moved.grown_box h.be h.rp (by omega) hg).other (by omega) _, (moved.grown_box h.bo h.rp (by omega) hg).other (by omega) _, ?_, ?_, ?_, ?_, ?_, hlt, hlw⟩, ?_, ?_⟩
  · have := own_setCell hown (p := ⟨g, 0, none⟩) (fun e' => by have := own_base hown g e'.symm; omega) v'
    simpa [nums] using this
  · refine own_setCell (own_other (own_alloc h.rb tmp) hg ?_) (p := ⟨g, 0, none⟩) (fun e' => by have := own_base h.rb g e'.symm; omega) v'
    cases hk : vb.ownBlock with
    | none => exact .inl rfl
    | some k => exact .inr (fun e' => hne k hk e')
  · rcases hat with e' | e'
    · rw [e']; exact h.ne
    · refine .inr fun e2 => ?_
      rw [e'] at e2
      have := own_lt h.rb _ e2.symm
      simp at this
      omega
  · exact ((h.bel.alloc h.bel.size _).grown hg (by have := h.bel.size; simp; omega) (fun k e' => by have := hbase k e'; omega)).setCell (p := ⟨g, 0, none⟩) (by show w.heap.size ≤ g; omega) _
  · have := hg.size
    have := World.size_alloc X tmp
    have := (KeepsOthers.setCell X1 ⟨g, 0, none⟩ v').size
    omega
  · refine ((KeepsOthers.alloc X tmp).trans (KeepsOthers.of_grownBy hg fun j o ej hj => ?_)).trans (KeepsOthers.setCell _ _ _)
    obtain ⟨cells, hc⟩ := own_typed (own_alloc h.rp tmp) j ej
    rw [hc] at hj; cases hj; rfl
  · intro k cs t hk ht hkg
    refine (Below.heap_setCell _ _ _ k hkg).trans ((hg.block k ?_ ?_).trans ((Below.heap_alloc X tmp k (Array.getElem?_eq_some_iff.1 hk).1).trans hk))
    · have := (Array.getElem?_eq_some_iff.1 hk).1
      simp; omega
    · intro e'
      obtain ⟨cells, hc⟩ := own_typed h.rp k e'.symm
      rw [hk] at hc
      injection hc with hc
      injection hc with _ h2 _
      exact ht h2
theorem moved.Box.pushB {w X X1 : World} {tmp : Obj} {ga g : Nat} {A0 : Option Addr} {n0 c0 : Nat} {pl by_ : List Int} {vp vb v' : Value} {e off y : Int} (h : moved.Box w X ga g A0 n0 c0 pl by_ vp vb e off)
    (hown : X1.ownsRow (g + 4) 3 1 v' (by_.length + 1) (nums .i64 by_ ++ [.int .i64 y])) (hg : (X.alloc tmp).grownBy X1 vb.ownBlock) (hat : v'.ownBlock = vb.ownBlock ∨ v'.ownBlock = some (X.alloc tmp).heap.size) :
    Boxed X1 (g + 1) 32 vb ∧ moved.Box w (X1.setCell ⟨g + 1, 0, none⟩ v') ga g A0 n0 c0 pl (by_ ++ [y]) vp v' e off ∧ KeepsOthers X (X1.setCell ⟨g + 1, 0, none⟩ v') := by
  have hne : ∀ k, vp.ownBlock = some k → some k ≠ vb.ownBlock := fun k hk e' => by
    rcases h.ne with h0 | h0
    · rw [h0] at hk; cases hk
    · exact h0 (hk.trans e')
  have hsz := h.sz
  have hlt := h.lt
  have hlw := h.lw
  have hbase : ∀ k, vb.ownBlock = some k → g + 4 ≤ k := own_base h.rb
  refine ⟨moved.grown_box h.bb h.rb (by omega) hg, ⟨(moved.grown_box h.ba h.rb (by omega) hg).other (by omega) _, (moved.grown_box h.bp h.rb (by omega) hg).other (by omega) _, (moved.grown_box h.bb h.rb (by omega) hg).set _, (moved.grown_box h.be h.rb (by omega) hg).other (by omega) _, (moved.grown_box h.bo h.rb (by omega) hg).other (by omega) _, ?_, ?_, ?_, ?_, ?_, hlt, hlw⟩, ?_⟩
  · refine own_setCell (own_other (own_alloc h.rp tmp) hg ?_) (p := ⟨g + 1, 0, none⟩) (fun e' => by have := own_base h.rp (g + 1) e'.symm; omega) v'
    cases hk : vp.ownBlock with
    | none => exact .inl rfl
    | some k => exact .inr (fun e' => hne k hk e')
  · have := own_setCell hown (p := ⟨g + 1, 0, none⟩) (fun e' => by have := own_base hown (g + 1) e'.symm; omega) v'
    simpa [nums] using this
  · rcases hat with e' | e'
    · rw [e']; exact h.ne
    · cases hk : vp.ownBlock with
      | none => exact .inl rfl
      | some k =>
        refine .inr fun e2 => ?_
        rw [e'] at e2
        injection e2 with e2
        have := own_lt h.rp _ hk
        simp at e2
        omega
  · exact ((h.bel.alloc h.bel.size _).grown hg (by have := h.bel.size; simp; omega) (fun k e' => by have := hbase k e'; omega)).setCell (p := ⟨g + 1, 0, none⟩) (by show w.heap.size ≤ g + 1; omega) _
  · have := hg.size
    have := World.size_alloc X tmp
    have := (KeepsOthers.setCell X1 ⟨g + 1, 0, none⟩ v').size
    omega
  · refine ((KeepsOthers.alloc X tmp).trans (KeepsOthers.of_grownBy hg fun j o ej hj => ?_)).trans (KeepsOthers.setCell _ _ _)
    obtain ⟨cells, hc⟩ := own_typed (own_alloc h.rb tmp) j ej
    rw [hc] at hj; cases hj; rfl
theorem moved.Box.setO {w X : World} {ga g : Nat} {A0 : Option Addr} {n0 c0 : Nat} {pl by_ : List Int} {vp vb : Value} {e off : Int} (h : moved.Box w X ga g A0 n0 c0 pl by_ vp vb e off) (y : Int) :
    moved.Box w (X.setCell ⟨g + 1 + 1 + 1, 0, none⟩ (.int .i64 y)) ga g A0 n0 c0 pl by_ vp vb e y := by
  have hlt := h.lt
  have hlw := h.lw
  exact ⟨h.ba.other (by omega) _, h.bp.other (by omega) _, h.bb.other (by omega) _, h.be.other (by omega) _, h.bo.set _, own_setCell h.rp (p := ⟨g + 1 + 1 + 1, 0, none⟩) (fun e' => by have := own_base h.rp (g + 1 + 1 + 1) e'.symm; omega) _, own_setCell h.rb (p := ⟨g + 1 + 1 + 1, 0, none⟩) (fun e' => by have := own_base h.rb (g + 1 + 1 + 1) e'.symm; omega) _, h.ne,
    h.bel.setCell (p := ⟨g + 1 + 1 + 1, 0, none⟩) (by show w.heap.size ≤ g + 1 + 1 + 1; omega) _, Nat.le_trans h.sz (KeepsOthers.setCell X _ _).size, hlt, hlw⟩
theorem moved.Box.setE {w X : World} {ga g : Nat} {A0 : Option Addr} {n0 c0 : Nat} {pl by_ : List Int} {vp vb : Value} {e off : Int} (h : moved.Box w X ga g A0 n0 c0 pl by_ vp vb e off) (y : Int) :
    moved.Box w (X.setCell ⟨g + 1 + 1, 0, none⟩ (.int .i64 y)) ga g A0 n0 c0 pl by_ vp vb y off := by
  have hlt := h.lt
  have hlw := h.lw
  exact ⟨h.ba.other (by omega) _, h.bp.other (by omega) _, h.bb.other (by omega) _, h.be.set _, h.bo.other (by omega) _, own_setCell h.rp (p := ⟨g + 1 + 1, 0, none⟩) (fun e' => by have := own_base h.rp (g + 1 + 1) e'.symm; omega) _, own_setCell h.rb (p := ⟨g + 1 + 1, 0, none⟩) (fun e' => by have := own_base h.rb (g + 1 + 1) e'.symm; omega) _, h.ne,
    h.bel.setCell (p := ⟨g + 1 + 1, 0, none⟩) (by show w.heap.size ≤ g + 1 + 1; omega) _, Nat.le_trans h.sz (KeepsOthers.setCell X _ _).size, hlt, hlw⟩
set_option maxHeartbeats 8000000 in
set_option maxRecDepth 100000 in
theorem moved_main (k : Nat) (A0 : Option Addr) (c0 : Nat) (l0 : List ByteArray) (A1 : Option Addr) (c1 : Nat) (l1 : List (S46)) (a2 : Int) (w : World) (r1 : List ByteArray) (r2 : List Int) (r3 : Int)
   (hr0 : Kd.C Kd.string w A0 l0.length l0) (hc0 : l0.length ≤ c0) (hr1 : Kd.C k46 w A1 l1.length l1) (hc1 : l1.length ≤ c1)
   (o : Option (List Int × List Int)) (hlen : l1.length < 8796093022208) (hchk : apply_check.f k l0 l1 = some 0) (hgo : moved.go k l0 a2.toNat l1 [] [] 0 0 = some o) (hra : 0 ≤ a2) (hrb : a2 ≤ 20)
   (hres : moved.fin k l0 l1 o = some (r1, r2, r3)) :
    Calls Try.prog 13 #[.slice A0 l0.length c0, .slice A1 l1.length c1, .int .i64 a2] w (moved.Post w r1 r2 r3) := by
  refine (callsIn_wide (n := 9)).1 ?_
  have hro : Fence.wide.round = none := rfl
  refine callsIn_of_wp_marks Try.func13 rfl trivial ?_ hro
  simp only [Try.ntmps13, List.size_toArray, List.length_cons, List.length_nil, Nat.reduceAdd, Nat.reduceSub, Array.replicate_succ, Array.replicate_zero, List.push_toArray, List.append_toArray, List.nil_append, List.cons_append]
  have c1b0 : decide (a2 < 0) = false := decide_eq_false (by omega)
  have c2b0 : decide (20 < a2) = false := decide_eq_false (by omega)
  gi_wp2
  refine wpIn_wide.2 (wp_scope_straight ((wpIn_wide (n := 9)).1 ?_))
  have HB0 : Below w.heap.size w (w.alloc (.cells #[.slice A0 l0.length c0] 22)) := (Below.refl _ w).alloc (Nat.le_refl _) _
  gi_wp2_with (refine ⟨trivial, ?_⟩; gi_at_call 26; refine (callsIn_wide.2 (apply_check.calls k A0 c0 l0 A1 c1 l1 0 _ (Kd.C_below hr0 HB0) hc0 (Kd.C_below hr1 HB0) hc1 hchk)).mono ?_; rintro e w1 ⟨rfl, hb1⟩)
  refine wpIn_label ?_
  gi_wp2
  refine wpIn_loop (fun a' W => ∃ (i : Nat) (ds : List Deferred) (u15 u35 u36 u37 u38 u39 u74 : Value) (pl by_ : List Int) (vp vb : Value) (e off : Int),
      a' = { tmps := moved.tmps A0 l0.length c0 A1 l1.length c1 a2 w.heap.size w1.heap.size u15 (.int .i64 (i : Int)) u35 u36 u37 u38 u39 u74, defers := ds } ∧
      i ≤ l1.length ∧ pl.length = i ∧ by_.length = i ∧ moved.go k l0 a2.toNat (l1.drop i) pl by_ e off = some o ∧ moved.marks ds w.heap.size W.heap.size W ∧
      moved.Box w W w.heap.size w1.heap.size A0 l0.length c0 pl by_ vp vb e off)
    (fun a' _ => l1.length - (intOf (a'.tmps.getD 34 undef)).toNat) ?start ?round
  case start =>
    refine ⟨0, [], undef, undef, undef, undef, undef, undef, undef, [], [], .slice none 0 0, .slice none 0 0, 0, 0, rfl, Nat.zero_le _, rfl, rfl, by simpa using hgo, ⟨[], rfl, List.nodup_nil, fun _ h => by cases h⟩, ?_⟩
    have hbw : Below w.heap.size w w1 := HB0.trans (hb1.mono (by simp))
    have hga : Boxed w1 w.heap.size 22 (.slice A0 l0.length c0) := (hb1.block w.heap.size (by simp)).trans (Boxed.new w _ _)
    have s1 : w.heap.size < w1.heap.size := hga.lt
    have b1 := Boxed.new w1 32 (.slice none 0 0)
    have b2 := Boxed.new (w1.alloc (.cells #[.slice none 0 0] 32)) 32 (.slice none 0 0)
    have b3 := Boxed.new ((w1.alloc (.cells #[.slice none 0 0] 32)).alloc (.cells #[.slice none 0 0] 32)) 3 (.int .i64 0)
    have b4 := Boxed.new (((w1.alloc (.cells #[.slice none 0 0] 32)).alloc (.cells #[.slice none 0 0] 32)).alloc (.cells #[.int .i64 0] 3)) 3 (.int .i64 0)
    simp only [World.size_alloc] at b2 b3 b4
    exact ⟨(((hga.alloc _).alloc _).alloc _).alloc _, ((b1.alloc _).alloc _).alloc _, (b2.alloc _).alloc _, b3.alloc _, b4, own_nil _ _ _ _, own_nil _ _ _ _, .inl rfl,
      (((hbw.alloc hbw.size _).alloc (by have := hbw.size; simp; omega) _).alloc (by have := hbw.size; simp; omega) _).alloc (by have := hbw.size; simp; omega) _, by simp, s1, Nat.le_refl _⟩
  case round =>
    rintro a' W ⟨i, ds, u15, u35, u36, u37, u38, u39, u74, pl, by_, vp, vb, e, off, rfl, hi, hpl, hby, hgo, hmk, hbx⟩
    have HPL := Aside0.mk hpl
    have HBY := Aside0.mk hby
    clear hpl hby
    dsimp only [moved.tmps]
    by_cases hlt : i < l1.length
    · have c3b0 : decide ((i : Int) < (l1.length : Int)) = true := decide_eq_true (by omega)
      have hltz : (i : Int) < (l1.length : Int) := by omega
      have hge : (0 : Int) ≤ (i : Int) := by omega
      obtain ⟨ad, B1, d1, B2, d2, rfl, hx0, hx1, hx2, hl1, hi1, hl2, hi2⟩ := at_T46 hr1 (i : Int) hge hltz
      simp only [Int.toNat_natCast] at hx0 hx1 hx2
      replace hx0 := (hbx.bel.cell (World.block_lt_of_cell? w _ hx0)).trans hx0
      replace hx1 := (hbx.bel.cell (World.block_lt_of_cell? w _ hx1)).trans hx1
      replace hx2 := (hbx.bel.cell (World.block_lt_of_cell? w _ hx2)).trans hx2
      obtain ⟨h, hh⟩ : ∃ h, h = rd_T46 l1 (i : Int) := ⟨_, rfl⟩
      rw [← hh] at hx0 hx1 hx2 hl1 hi1 hl2 hi2
      have hdrop : l1.drop i = h :: l1.drop (i + 1) := by
        rw [List.drop_eq_getElem_cons hlt]
        congr 1
        rw [hh]
        simp [rd_T46, hlt]
      clear hh
      rw [hdrop] at hgo
      simp only [moved.go] at hgo
      obtain ⟨op, hfind, hgo⟩ := Option.bind_eq_some_iff.1 hgo
      have hfall : ∀ d, d ∈ upto a2.toNat → ∃ b, moved.fit k l0 h e off d = some b := by
        intro d hd
        unfold moved.find at hfind
        split at hfind
        · rename_i hall
          exact Option.isSome_iff_exists.1 (List.all_eq_true.1 hall d hd)
        · cases hfind
      have hfsc : op = moved.scan k l0 h e off (upto a2.toNat) := by
        unfold moved.find at hfind
        split at hfind
        · injection hfind with hfind
          exact hfind.symm
        · cases hfind
      clear hfind
      gi_wp2_with (refine ⟨trivial, ?_⟩; gi_at_call 32; refine (near_in Fence.wide 8 trivial rfl a2 _).mono ?_; rintro e w2 ⟨rfl, rfl⟩)
      obtain ⟨W2, hW2⟩ : ∃ W2, ((W.alloc (.cells #[.int .i64 h.f0, .slice B1 h.f1.length d1, .slice B2 h.f2.length d2] 46)).alloc (.cells #[.int .i64 a2] 3)) = W2 := ⟨_, rfl⟩
      have hsz2 : W2.heap.size = W.heap.size + 2 := by rw [← hW2]; simp
      have hB2 : Below W.heap.size W W2 := by rw [← hW2]; exact ((Below.refl _ W).alloc (Nat.le_refl _) _).alloc (by simp) _
      have hbx2 := hbx.below (Nat.le_refl _) hB2
      simp only [hW2]
      have hH2 : W2.heap[W.heap.size]? = some (.cells #[.int .i64 h.f0, .slice B1 h.f1.length d1, .slice B2 h.f2.length d2] 46 (0, 0)) := by
        rw [← hW2]
        exact (Below.heap_alloc _ _ W.heap.size (by simp)).trans (World.alloc_heap_new W _)
      have hbox2 : W2.cell? ⟨W.heap.size, 0, none⟩ = some (.int .i64 h.f0) ∧ W2.cell? ⟨W.heap.size, 1, none⟩ = some (.slice B1 h.f1.length d1) := by
        rw [← hW2]
        refine ⟨(((Below.refl _ _).alloc (Nat.le_refl _) _).cell (p := ⟨W.heap.size, 0, none⟩) (by simp)).trans ?_, (((Below.refl _ _).alloc (Nat.le_refl _) _).cell (p := ⟨W.heap.size, 1, none⟩) (by simp)).trans ?_⟩ <;> (unfold World.cell?; simp only [World.alloc_heap_new]; rfl)
      have hreach2 : W2.cell? ⟨W.heap.size + 1, 0, none⟩ = some (.int .i64 ((a2.toNat : Nat) : Int)) := by
        rw [← hW2, Int.toNat_of_nonneg hra]
        have := World.alloc_heap_new (W.alloc (.cells #[.int .i64 h.f0, .slice B1 h.f1.length d1, .slice B2 h.f2.length d2] 46)) (.cells #[.int .i64 a2] 3)
        rw [World.size_alloc] at this
        unfold World.cell?
        simp only [this]
        rfl
      refine wpIn_rangeFunc_ownF rfl (by omega) (gf := 42) (lb := #[.pointer (some ⟨W.heap.size + 1, 0, none⟩)]) rfl trivial (enters_of Try.func42 (by kernel_rfl) rfl)
        (near1_stops Fence.wide 8 trivial rfl (by omega) (W.heap.size + 1) W2.heap.size (by omega) a2.toNat (by omega) W2 (Nat.le_refl _) hreach2) belowK_t (belowK_b (Nat.le_refl _)) (Below.refl _ _) (fun _ => rfl)
        (fun pre X => (∀ y ∈ pre, moved.fit k l0 h e off y.1 = some false) ∧ Below W2.heap.size W2 X)
        (fun c pre X => ∃ (ini : List (NearI a2.toNat)) (x : NearI a2.toNat) (vp' vb' : Value), c = .exit 1 ∧ pre = ini ++ [x] ∧ (∀ y ∈ ini, moved.fit k l0 h e off y.1 = some false) ∧ moved.fit k l0 h e off x.1 = some true ∧
          moved.Box w X w.heap.size w1.heap.size A0 l0.length c0 (pl ++ [wrap64 (wrap64 (h.f0 + off) + x.1)]) (by_ ++ [wrap64 (wrap64 (wrap64 (h.f0 + off) + x.1) - h.f0)]) vp' vb' (wrap64 (wrap64 (wrap64 (h.f0 + off) + x.1) + (h.f1.length : Int))) (wrap64 (wrap64 (wrap64 (h.f0 + off) + x.1) - h.f0)) ∧
          moved.marks ds w.heap.size W2.heap.size X ∧ W2.heap.size ≤ X.heap.size)
        (OwnFrom.and (fun s X Y row hs hg hr => hs) (ownFrom_below (Nat.le_refl _) (Nat.le_refl _)))
        (fun c s X Y row hs hg hr => by
          obtain ⟨ini, x, vp', vb', e1, e2, e3, e4, e5, e6, e7⟩ := hs
          exact ⟨ini, x, vp', vb', e1, e2, e3, e4, e5.turn hg (fun r er => ⟨by have := (hr r er).1; have := hbx2.bel.size; omega, (hr r er).2⟩), e6.turn hg (fun r er => (hr r er).1), Nat.le_trans e7 hg.size⟩)
        ⟨by simp, Below.refl _ _⟩
        (fun x => { tmps := moved.tmps2 A0 l0.length c0 (some ad) l1.length c1 a2 w.heap.size w1.heap.size (.pointer (some ⟨W.heap.size, 0, none⟩)) (.int .i64 x.1) (.int .i64 (i : Int)) (.bool true) (.pointer (some (ad.add (i * 3)))) (.agg #[.int .i64 h.f0, .slice B1 h.f1.length d1, .slice B2 h.f2.length d2]) (.int .i64 a2) (.func (.func 42) #[] #[.pointer (some ⟨W.heap.size + 1, 0, none⟩)]) (.int .i64 x.1) u74, defers := [] }) ?assign ?body ?done ?stop
      case assign =>
        intro l x X K hK
        dsimp only [moved.tmps2] at hK ⊢
        gi_wp2
        exact hK
      case body =>
        rintro l pre x X ⟨hmiss, hbel⟩ _
        dsimp only [moved.tmps2]
        have hbxX := hbx2.below (Nat.le_refl _) hbel
        have hcA : X.cell? ⟨W.heap.size, 0, none⟩ = some (.int .i64 h.f0) := (hbel.cell (p := ⟨W.heap.size, 0, none⟩) (by show W.heap.size < _; omega)).trans hbox2.1
        have hcO : X.cell? ⟨W.heap.size, 1, none⟩ = some (.slice B1 h.f1.length d1) := (hbel.cell (p := ⟨W.heap.size, 1, none⟩) (by show W.heap.size < _; omega)).trans hbox2.2
        have hba := hbxX.ba.cell
        have hbe := hbxX.be.cell
        have hbo := hbxX.bo.cell
        obtain ⟨b, hb⟩ := hfall x.1 (mem_upto x.2)
        have hb' := Aside0.mk hb
        unfold moved.fit at hb
        obtain ⟨P, hP⟩ : ∃ P, wrap64 (wrap64 (h.f0 + off) + x.1) = P := ⟨_, rfl⟩
        rw [hP] at hb
        by_cases cge : P ≥ e
        · rw [if_pos cge] at hb
          have c4b0 : decide (e ≤ P) = true := decide_eq_true cge
          have hrA := Kd.C_below hr0 hbxX.bel
          have hrB := Kd.C_below hi1 hbxX.bel
          obtain ⟨i0, hi0, hz0, hz1, hz2⟩ := info_parts info3
          have hroom1 : pl.length + 1 ≤ maxLen := by simp only [maxLen]; have := HPL.out; omega
          have hroom2 : (pl.length + 1) * 8 ≤ 140737488355328 := by have := HPL.out; omega
          cases b with
          | false =>
            gi_wp2_with (first | (refine ⟨trivial, ?_⟩; gi_at_call 27; refine (CallsIn.inRound l (callsIn_wide.2 (apply_at.calls k A0 c0 l0 B1 d1 h.f1 _ false X hrA hc0 hrB hl1 hb))).mono ?_; rintro e w' ⟨rfl, ⟨q, rfl⟩⟩) | (gi_at_call 27; refine (CallsIn.inRound l (callsIn_wide.2 (apply_at.calls k A0 c0 l0 B1 d1 h.f1 _ false X hrA hc0 hrB hl1 hb))).mono ?_; rintro e w' ⟨rfl, ⟨q, rfl⟩⟩))
            exact ⟨⟨Nat.le_refl _, fun _ _ h' _ => h'⟩, pw_below_drewN (Below.refl _ _) q, fun y hy => by
              rcases List.mem_append.1 hy with hy | hy
              · exact hmiss y hy
              · rw [List.mem_singleton.1 hy]
                exact hb'.out, pw_below_drewN hbel q⟩
          | true =>
            gi_wp2_with (first | (refine ⟨trivial, ?_⟩; gi_at_call 27; refine (CallsIn.inRound l (callsIn_wide.2 (apply_at.calls k A0 c0 l0 B1 d1 h.f1 _ true X hrA hc0 hrB hl1 hb))).mono ?_; rintro e w' ⟨rfl, ⟨q, rfl⟩⟩; have hbq := hbxX.below (Nat.le_refl _) (pw_below_drewN (Below.refl _ X) q); have hpq := hbq.bp.cell) | (gi_at_call 27; refine (CallsIn.inRound l (callsIn_wide.2 (apply_at.calls k A0 c0 l0 B1 d1 h.f1 _ true X hrA hc0 hrB hl1 hb))).mono ?_; rintro e w' ⟨rfl, ⟨q, rfl⟩⟩; have hbq := hbxX.below (Nat.le_refl _) (pw_below_drewN (Below.refl _ X) q); have hpq := hbq.bp.cell) | (gi_at_builtin; refine wpListIn_append_at _ rfl _ _ 32 rfl (w1.heap.size + 4) 3 i0 (.int .i64 0) 1 8 Try.underlying32 hi0 hz0 hz1 hz2 rfl (by decide) vp pl.length (nums .i64 pl) rfl (own_alloc hbq.rp _) ⟨(X.drewN q).heap.size, 0, none⟩ 1 1 [.int .i64 P] rfl rfl (cell_one_new _ _ _) (by simp [Value.oneCell']) hroom1 hroom2 (by have := hbq.sz; rw [World.size_alloc]; omega) ?_; intro vp' X1 hown' hgrow hnil hat; obtain ⟨g', cap', rfl⟩ := ownsRow_succ hown'; obtain ⟨hP1, hP2, hP3, hP4⟩ := hbq.push hown' hgrow hat; have hcp := hP1.cell; have hfp := hP1.frozen; clear hpq))
            obtain ⟨O, hO2⟩ : ∃ O, wrap64 (P - h.f0) = O := ⟨_, rfl⟩
            have hO1 : IntKind.i64.wrap (P - h.f0) = O := by rw [IntKind.wrap_i64]; unfold wrap64 at hO2; exact hO2
            obtain ⟨E, hE2⟩ : ∃ E, wrap64 (P + (h.f1.length : Int)) = E := ⟨_, rfl⟩
            have hE1 : IntKind.i64.wrap (P + (h.f1.length : Int)) = E := by rw [IntKind.wrap_i64]; unfold wrap64 at hE2; exact hE2
            have hH : (X1.setCell ⟨w1.heap.size, 0, none⟩ (.slice (some ⟨g', 0, none⟩) (pl.length + 1) cap')).heap[W.heap.size]? = some (.cells #[.int .i64 h.f0, .slice B1 h.f1.length d1, .slice B2 h.f2.length d2] 46 (0, 0)) := hP4 W.heap.size _ _ (hbel.block W.heap.size (by omega) |>.trans hH2) (by decide) (by have := hbx.sz; omega)
            have hcA' : (X1.setCell ⟨w1.heap.size, 0, none⟩ (.slice (some ⟨g', 0, none⟩) (pl.length + 1) cap')).cell? ⟨W.heap.size, 0, none⟩ = some (.int .i64 h.f0) := by unfold World.cell?; simp only [hH]; rfl
            have hcO' : (X1.setCell ⟨w1.heap.size, 0, none⟩ (.slice (some ⟨g', 0, none⟩) (pl.length + 1) cap')).cell? ⟨W.heap.size, 1, none⟩ = some (.slice B1 h.f1.length d1) := by unfold World.cell?; simp only [hH]; rfl
            have ho1 := hP2.bo.cell
            have ho2 := hP2.bo.frozen
            generalize hY1 : X1.setCell ⟨w1.heap.size, 0, none⟩ (.slice (some ⟨g', 0, none⟩) (pl.length + 1) cap') = Y1 at *
            have d1' : Y1.drew.cell? ⟨W.heap.size, 0, none⟩ = some (.int .i64 h.f0) := hcA'
            have d2' : Y1.drew.cell? ⟨W.heap.size, 1, none⟩ = some (.slice B1 h.f1.length d1) := hcO'
            have d3' : Y1.drew.cell? ⟨w1.heap.size + 1 + 1 + 1, 0, none⟩ = some (.int .i64 off) := ho1
            have d4' : Y1.drew.frozen? ⟨w1.heap.size + 1 + 1 + 1, 0, none⟩ = false := ho2
            have hD := hP2.below (Nat.le_refl _) ((Below.refl _ Y1).drew)
            have hO := hD.setO O
            have he1 := hO.be.cell
            have he2 := hO.be.frozen
            have f5 := hP2.be.cell
            have f6 := hP2.be.frozen
            have d5' := hD.be.cell
            have d6' := hD.be.frozen
            have hn1 : ¬ (w1.heap.size + 1 + 1 + 1 = W.heap.size) := by have := hbx.sz; omega
            have hn2 : ¬ (W.heap.size = w1.heap.size + 1 + 1 + 1) := by have := hbx.sz; omega
            have hHO : (Y1.drew.setCell ⟨w1.heap.size + 1 + 1 + 1, 0, none⟩ (.int .i64 O)).heap[W.heap.size]? = some (.cells #[.int .i64 h.f0, .slice B1 h.f1.length d1, .slice B2 h.f2.length d2] 46 (0, 0)) := (Below.heap_setCell _ _ _ W.heap.size (by show W.heap.size ≠ w1.heap.size + 1 + 1 + 1; have := hbx.sz; omega)).trans hH
            have hcO2 : (Y1.drew.setCell ⟨w1.heap.size + 1 + 1 + 1, 0, none⟩ (.int .i64 O)).cell? ⟨W.heap.size, 1, none⟩ = some (.slice B1 h.f1.length d1) := by unfold World.cell?; simp only [hHO]; rfl
            have hZ := ((hP2.setO O).setE E).below (Nat.le_refl _) ((Below.refl _ _).drew)
            have hKZ : KeepsOthers X ((Y1.setCell ⟨w1.heap.size + 1 + 1 + 1, 0, none⟩ (.int .i64 O)).setCell ⟨w1.heap.size + 1 + 1, 0, none⟩ (.int .i64 E)).drew :=
              ((show KeepsOthers X (X.drewN q) from ⟨Nat.le_refl X.heap.size, fun _ _ h' _ => h'⟩).trans hP3).trans (((KeepsOthers.setCell _ _ _).trans (KeepsOthers.setCell _ _ _)).trans (KeepsOthers.drew _))
            have hKX : KeepsOthers W X := (((KeepsOthers.alloc W _).trans (KeepsOthers.alloc _ _)).trans (by rw [hW2]; exact ⟨hbel.size, fun k o' hk _ => (hbel.block k (Array.getElem?_eq_some_iff.1 hk).1).trans hk⟩))
            have hroomb1 : by_.length + 1 ≤ maxLen := by simp only [maxLen]; have := HBY.out; omega
            have hroomb2 : (by_.length + 1) * 8 ≤ 140737488355328 := by have := HBY.out; omega
            have A12 := Aside0.mk hKZ
            have A13 := Aside0.mk hKX
            have A14 := Aside0.mk hZ
            clear hKZ hKX hZ
            have A1 := Aside0.mk hP2
            have A2 := Aside0.mk hP3
            have A3 := Aside0.mk hD
            have A4 := Aside0.mk hO
            have A5 := Aside0.mk hbq
            have A6 := Aside0.mk hmk
            have A7 := Aside0.mk hbx
            have A8 := Aside0.mk hbx2
            have A9 := Aside0.mk hbel
            have A10 := Aside0.mk hB2
            have A11 := Aside0.mk hmiss
            clear hP2 hP3 hP1 hP4 hcp hfp hown' hgrow hat hnil hH hHO hD hO hbq hbxX hmk hbx hbx2 hbel hba hbe hbo hcA hcO hx0 hx1 hx2 hH2 hbox2 hreach2 hB2 hfall hmiss hdrop hgo he1 he2 hrA hrB hb
            have hmx : Try.prog.follows .mixedOrders = true := by kernel_rfl
            refine wpIn_region_any (by kernel_rfl) ?_
            (change wpAnyIn _ _ _ _ _ _ _ _ _ (World.drew _))
            refine wpAnyIn_inRound (F := Fence.wide) rfl l (by kernel_rfl) _ _ _ _ ?_
            refine wpAnyIn_take (i := 0) (v := ?v0) rfl rfl (by kernel_rfl) (by kernel_rfl) (by kernel_rfl) (fun _ _ _ h => h) ⟨Or.inl ⟨by rfl, ?y0⟩, fun _ => rfl⟩ ?_
            case y0 => (intro w; go_simp; try with_reducible rfl)
            refine wpAnyIn_take (i := 1) (v := ?v1) rfl rfl (by kernel_rfl) (by kernel_rfl) (by kernel_rfl) (fun _ _ _ h => h) ⟨Or.inl ⟨by rfl, ?y1⟩, fun _ => rfl⟩ ?_
            case y1 => (intro w; go_simp; try with_reducible rfl)
            refine wpAnyIn_take (i := 4) (v := ?v4) rfl rfl (by kernel_rfl) (by kernel_rfl) (by kernel_rfl) (fun _ _ _ h => h) ⟨Or.inl ⟨by rfl, ?y4⟩, fun _ => rfl⟩ ?_
            case y4 => (intro w; go_simp; try with_reducible rfl)
            refine wpAnyIn_take (i := 5) (v := ?v5) rfl rfl (by kernel_rfl) (by kernel_rfl) (by kernel_rfl) (fun _ _ _ h => h) ⟨Or.inl ⟨by rfl, ?y5⟩, fun _ => rfl⟩ ?_
            case y5 => (intro w; go_simp; try with_reducible rfl)
            refine wpAnyIn_ready (rs := [2, 6]) (by kernel_rfl) (by simp) ?_
            refine AllReadyIn.cons rfl (fun K hK => ?_) (AllReadyIn.cons rfl (fun K hK => ?_) AllReadyIn.nil)
            · go_simp
              refine hK _ _ ?_
              clear hK K
              refine wpAnyIn_take (i := 3) (v := ?v3_1) rfl rfl (by kernel_rfl) (by kernel_rfl) (by kernel_rfl) (fun _ _ _ h => h) ⟨Or.inl ⟨by rfl, ?y3_1⟩, fun _ => rfl⟩ ?_
              case y3_1 => (intro w; go_simp; try with_reducible rfl)
              refine wpAnyIn_ready (rs := [6, 9]) (by kernel_rfl) (by simp) ?_
              refine AllReadyIn.cons rfl (fun K hK => ?_) (AllReadyIn.cons rfl (fun K hK => ?_) AllReadyIn.nil)
              · go_simp
                refine hK _ _ ?_
                clear hK K
                refine wpAnyIn_take (i := 7) (v := ?v7_2) rfl rfl (by kernel_rfl) (by kernel_rfl) (by kernel_rfl) (fun _ _ _ h => h) ⟨Or.inl ⟨by rfl, ?y7_2⟩, fun _ => rfl⟩ ?_
                case y7_2 => (intro w; go_simp; try with_reducible rfl)
                refine wpAnyIn_take (i := 8) (v := ?v8_3) rfl rfl (by kernel_rfl) (by kernel_rfl) (by kernel_rfl) (fun _ _ _ h => h) ⟨Or.inl ⟨by rfl, ?y8_3⟩, fun _ => rfl⟩ ?_
                case y8_3 => (intro w; go_simp; try with_reducible rfl)
                refine wpAnyIn_ready (rs := [9]) (by kernel_rfl) (by simp) ?_
                refine AllReadyIn.cons rfl (fun K hK => ?_) AllReadyIn.nil
                go_simp
                refine hK _ _ ?_
                clear hK K
                refine wpAnyIn_ready (rs := [10]) (by kernel_rfl) (by simp) ?_
                refine AllReadyIn.cons rfl (fun K hK => ?_) AllReadyIn.nil
                go_simp
                refine hK _ _ ?_
                clear hK K
                refine wpAnyIn_done (by kernel_rfl) ?_ _
                have hZ := A14.out
                clear A14
                generalize hZe : ((Y1.setCell ⟨w1.heap.size + 1 + 1 + 1, 0, none⟩ (.int .i64 O)).setCell ⟨w1.heap.size + 1 + 1, 0, none⟩ (.int .i64 E)).drew = Z at hZ A12 ⊢
                clear hZe d1' d2' d3' d4' d5' d6' f5 f6 ho1 ho2 hcA' hcO' hcO2
                have hcb := hZ.bb.cell
                have hco := hZ.bo.cell
                gi_wp2_with (gi_at_builtin; refine wpListIn_append_at _ rfl _ _ 32 rfl (w1.heap.size + 4) 3 i0 (.int .i64 0) 1 8 Try.underlying32 hi0 hz0 hz1 hz2 rfl (by decide) vb by_.length (nums .i64 by_) rfl (own_alloc hZ.rb _) ⟨Z.heap.size, 0, none⟩ 1 1 [.int .i64 O] rfl rfl (cell_one_new _ _ _) (by simp [Value.oneCell']) hroomb1 hroomb2 (by have := hZ.sz; rw [World.size_alloc]; omega) ?_; intro vb' X2 hown2 hgrow2 hnil2 hat2; obtain ⟨g2, cap2, rfl⟩ := ownsRow_succ hown2; obtain ⟨hQ1, hQ2, hQ3⟩ := hZ.pushB hown2 hgrow2 hat2; have hcq := hQ1.cell; have hfq := hQ1.frozen; clear hcb)
                have hKA := A12.out.trans hQ3
                refine ⟨hKA, pre, x, .slice (some ⟨g', 0, none⟩) (pl.length + 1) cap', .slice (some ⟨g2, 0, none⟩) (by_.length + 1) cap2, rfl, rfl, A11.out, hb'.out, ?_, A6.out.others (A13.out.trans hKA) (by omega), Nat.le_trans A9.out.size hKA.size⟩
                rw [hP, hO2, hE2]
                exact hQ2
              · go_simp
                refine hK _ _ ?_
                clear hK K
                refine wpAnyIn_ready (rs := [6]) (by kernel_rfl) (by simp) ?_
                refine AllReadyIn.cons rfl (fun K hK => ?_) AllReadyIn.nil
                go_simp
                refine hK _ _ ?_
                clear hK K
                refine wpAnyIn_take (i := 7) (v := ?v7_4) rfl rfl (by kernel_rfl) (by kernel_rfl) (by kernel_rfl) (fun _ _ _ h => h) ⟨Or.inl ⟨by rfl, ?y7_4⟩, fun _ => rfl⟩ ?_
                case y7_4 => (intro w; go_simp; try with_reducible rfl)
                refine wpAnyIn_take (i := 8) (v := ?v8_5) rfl rfl (by kernel_rfl) (by kernel_rfl) (by kernel_rfl) (fun _ _ _ h => h) ⟨Or.inl ⟨by rfl, ?y8_5⟩, fun _ => rfl⟩ ?_
                case y8_5 => (intro w; go_simp; try with_reducible rfl)
                refine wpAnyIn_ready (rs := [10]) (by kernel_rfl) (by simp) ?_
                refine AllReadyIn.cons rfl (fun K hK => ?_) AllReadyIn.nil
                go_simp
                refine hK _ _ ?_
                clear hK K
                refine wpAnyIn_done (by kernel_rfl) ?_ _
                have hZ := A14.out
                clear A14
                generalize hZe : ((Y1.setCell ⟨w1.heap.size + 1 + 1 + 1, 0, none⟩ (.int .i64 O)).setCell ⟨w1.heap.size + 1 + 1, 0, none⟩ (.int .i64 E)).drew = Z at hZ A12 ⊢
                clear hZe d1' d2' d3' d4' d5' d6' f5 f6 ho1 ho2 hcA' hcO' hcO2
                have hcb := hZ.bb.cell
                have hco := hZ.bo.cell
                gi_wp2_with (gi_at_builtin; refine wpListIn_append_at _ rfl _ _ 32 rfl (w1.heap.size + 4) 3 i0 (.int .i64 0) 1 8 Try.underlying32 hi0 hz0 hz1 hz2 rfl (by decide) vb by_.length (nums .i64 by_) rfl (own_alloc hZ.rb _) ⟨Z.heap.size, 0, none⟩ 1 1 [.int .i64 O] rfl rfl (cell_one_new _ _ _) (by simp [Value.oneCell']) hroomb1 hroomb2 (by have := hZ.sz; rw [World.size_alloc]; omega) ?_; intro vb' X2 hown2 hgrow2 hnil2 hat2; obtain ⟨g2, cap2, rfl⟩ := ownsRow_succ hown2; obtain ⟨hQ1, hQ2, hQ3⟩ := hZ.pushB hown2 hgrow2 hat2; have hcq := hQ1.cell; have hfq := hQ1.frozen; clear hcb)
                have hKA := A12.out.trans hQ3
                refine ⟨hKA, pre, x, .slice (some ⟨g', 0, none⟩) (pl.length + 1) cap', .slice (some ⟨g2, 0, none⟩) (by_.length + 1) cap2, rfl, rfl, A11.out, hb'.out, ?_, A6.out.others (A13.out.trans hKA) (by omega), Nat.le_trans A9.out.size hKA.size⟩
                rw [hP, hO2, hE2]
                exact hQ2
            · go_simp
              refine hK _ _ ?_
              clear hK K
              refine wpAnyIn_take (i := 7) (v := ?v7_6) rfl rfl (by kernel_rfl) (by kernel_rfl) (by kernel_rfl) (fun _ _ _ h => h) ⟨Or.inl ⟨by rfl, ?y7_6⟩, fun _ => rfl⟩ ?_
              case y7_6 => (intro w; go_simp; try with_reducible rfl)
              refine wpAnyIn_take (i := 8) (v := ?v8_7) rfl rfl (by kernel_rfl) (by kernel_rfl) (by kernel_rfl) (fun _ _ _ h => h) ⟨Or.inl ⟨by rfl, ?y8_7⟩, fun _ => rfl⟩ ?_
              case y8_7 => (intro w; go_simp; try with_reducible rfl)
              refine wpAnyIn_ready (rs := [2]) (by kernel_rfl) (by simp) ?_
              refine AllReadyIn.cons rfl (fun K hK => ?_) AllReadyIn.nil
              go_simp
              refine hK _ _ ?_
              clear hK K
              refine wpAnyIn_take (i := 3) (v := ?v3_8) rfl rfl (by kernel_rfl) (by kernel_rfl) (by kernel_rfl) (fun _ _ _ h => h) ⟨Or.inl ⟨by rfl, ?y3_8⟩, fun _ => rfl⟩ ?_
              case y3_8 => (intro w; go_simp; try with_reducible rfl)
              refine wpAnyIn_ready (rs := [9]) (by kernel_rfl) (by simp) ?_
              refine AllReadyIn.cons rfl (fun K hK => ?_) AllReadyIn.nil
              go_simp
              refine hK _ _ ?_
              clear hK K
              refine wpAnyIn_ready (rs := [10]) (by kernel_rfl) (by simp) ?_
              refine AllReadyIn.cons rfl (fun K hK => ?_) AllReadyIn.nil
              go_simp
              refine hK _ _ ?_
              clear hK K
              refine wpAnyIn_done (by kernel_rfl) ?_ _
              have hZ := A14.out
              clear A14
              generalize hZe : ((Y1.setCell ⟨w1.heap.size + 1 + 1 + 1, 0, none⟩ (.int .i64 O)).setCell ⟨w1.heap.size + 1 + 1, 0, none⟩ (.int .i64 E)).drew = Z at hZ A12 ⊢
              clear hZe d1' d2' d3' d4' d5' d6' f5 f6 ho1 ho2 hcA' hcO' hcO2
              have hcb := hZ.bb.cell
              have hco := hZ.bo.cell
              gi_wp2_with (gi_at_builtin; refine wpListIn_append_at _ rfl _ _ 32 rfl (w1.heap.size + 4) 3 i0 (.int .i64 0) 1 8 Try.underlying32 hi0 hz0 hz1 hz2 rfl (by decide) vb by_.length (nums .i64 by_) rfl (own_alloc hZ.rb _) ⟨Z.heap.size, 0, none⟩ 1 1 [.int .i64 O] rfl rfl (cell_one_new _ _ _) (by simp [Value.oneCell']) hroomb1 hroomb2 (by have := hZ.sz; rw [World.size_alloc]; omega) ?_; intro vb' X2 hown2 hgrow2 hnil2 hat2; obtain ⟨g2, cap2, rfl⟩ := ownsRow_succ hown2; obtain ⟨hQ1, hQ2, hQ3⟩ := hZ.pushB hown2 hgrow2 hat2; have hcq := hQ1.cell; have hfq := hQ1.frozen; clear hcb)
              have hKA := A12.out.trans hQ3
              refine ⟨hKA, pre, x, .slice (some ⟨g', 0, none⟩) (pl.length + 1) cap', .slice (some ⟨g2, 0, none⟩) (by_.length + 1) cap2, rfl, rfl, A11.out, hb'.out, ?_, A6.out.others (A13.out.trans hKA) (by omega), Nat.le_trans A9.out.size hKA.size⟩
              rw [hP, hO2, hE2]
              exact hQ2
        · rw [if_neg cge] at hb
          have c4b0 : decide (e ≤ P) = false := decide_eq_false cge
          obtain rfl : false = b := Option.some.inj hb
          gi_wp2
          refine ⟨trivial, ?_⟩
          gi_wp2
          exact ⟨KeepsOthers.refl _, Below.refl _ _, fun y hy => by
              rcases List.mem_append.1 hy with hy | hy
              · exact hmiss y hy
              · rw [List.mem_singleton.1 hy]
                exact hb'.out, hbel⟩
      case done =>
        rintro D ys X hD hys ⟨hmiss, hbel⟩ hK
        have hop : op = none := by
          rw [hfsc]
          refine moved.scan_none _ _ _ _ _ _ (fun d hd => ?_)
          rw [← hys] at hd
          obtain ⟨y, hy, rfl⟩ := List.mem_map.1 hd
          exact hmiss y hy
        rw [hop] at hgo
        obtain rfl : none = o := Option.some.inj hgo
        simp only [moved.fin, Option.some.injEq, Prod.mk.injEq] at hres
        obtain ⟨rfl, rfl, rfl⟩ := hres
        have hKX : KeepsOthers W X := (((KeepsOthers.alloc W _).trans (KeepsOthers.alloc _ _)).trans (by rw [hW2]; exact ⟨hbel.size, fun k o' hk _ => (hbel.block k (Array.getElem?_eq_some_iff.1 hk).1).trans hk⟩))
        obtain ⟨Ds, e1, e2, e3⟩ := (hmk.others hKX (Nat.le_refl _)).cons (D := D) (by omega) (by have := hbx.bel.size; omega) hK
        have hbX : Below w.heap.size w X := (hbx2.below (Nat.le_refl _) hbel).bel
        gi_wp2
        unfold bodyPostM
        dsimp only
        (try rw [e1])
        refine moved.leave (n₀ := w.heap.size) Ds X e2 (fun E hE => ⟨(e3 E hE).1, (e3 E hE).2.2⟩) hbX.size (fun W' hb hc => ?_)
        exact ⟨_, results_tmp3 rfl _ _ _, _, _, rfl, Kd.R_nil _ _ _ _ _, Kd.R_nil _ _ _ _ _, hbX.trans hb⟩
      case stop =>
        rintro D c pre X hD hpre ⟨ini, x, vp', vb', rfl, rfl, hmiss, hhit, hbx3, hmk3, hsz3⟩ hK
        obtain ⟨rest, hrest⟩ := hpre
        have hop : op = some (wrap64 (wrap64 (h.f0 + off) + x.1)) := by
          rw [hfsc, ← hrest, List.map_append, List.append_assoc]
          refine moved.scan_some _ _ _ _ _ _ hhit _ _ (fun d hd => ?_)
          obtain ⟨y, hy, rfl⟩ := List.mem_map.1 hd
          exact hmiss y hy
        rw [hop] at hgo
        dsimp only at hgo
        have hKX : KeepsOthers W2 X → True := fun _ => trivial
        have hmk4 := hmk3.cons (D := D) hD (by have := hbx.bel.size; omega) hK
        gi_wp2
        refine ⟨⟨i + 1, _, _, _, _, _, _, _, _, _, _, _, _, _, _, rfl, by omega, by rw [List.length_append, HPL.out]; rfl, by rw [List.length_append, HBY.out]; rfl, hgo, ?_, hbx3⟩, ?_⟩
        · obtain ⟨Ds, e1, e2, e3⟩ := hmk4
          exact ⟨Ds, e1, e2, fun E hE => ⟨(e3 E hE).1, (Array.getElem?_eq_some_iff.1 (e3 E hE).2.2).1, (e3 E hE).2.2⟩⟩
        · simp [intOf]
          omega
    · have hi' : i = l1.length := by omega
      have c3b0 : decide ((i : Int) < (l1.length : Int)) = false := decide_eq_false (by omega)
      rw [hi', List.drop_length] at hgo
      simp only [moved.go] at hgo
      obtain rfl : some (pl, by_) = o := Option.some.inj hgo
      simp only [moved.fin] at hres
      obtain ⟨⟨q1, q2⟩, hput, hres⟩ := Option.bind_eq_some_iff.1 hres
      obtain ⟨Ap, cp, rfl, hcp, hrp⟩ := own_reads_of_le (d := (0 : Int)) (enc := Value.int .i64) hbx.rp
      have c4b0 := hbx.ba.cell
      have c5b0 := hbx.bp.cell
      have c6b0 := hbx.bb.cell
      clear hi'
      have hput' := apply_put.calls k A0 c0 l0 A1 c1 l1 Ap cp pl q1 q2 W (Kd.C_below hr0 hbx.bel) hc0 (Kd.C_below hr1 hbx.bel) hc1 (Kd.C_of_reads (h1 := fun _ => rfl) hrp) hcp hput
      by_cases hq : q2 = 0
      · subst hq
        simp only [if_true, Option.some.injEq, Prod.mk.injEq] at hres
        obtain ⟨rfl, rfl, rfl⟩ := hres
        gi_wp2_with (refine ⟨trivial, ?_⟩; gi_at_call 28; refine (callsIn_wide.2 hput').mono ?_; rintro e w3 ⟨v0, rfl, hRout, hb3⟩; have hbx3 := hbx.below (Nat.le_refl _) hb3; have c7b0 := hbx3.bb.cell)
        have c7b1 : w3.drew.cell? ⟨w1.heap.size + 1, 0, none⟩ = some vb := c7b0
        have hmx : Try.prog.follows .mixedOrders = true := by kernel_rfl
        have hbX := hbx3.bel
        obtain ⟨Ds, e1, e2, e3⟩ := hmk
        have e3' : ∀ E ∈ Ds, w.heap.size ≤ E ∧ w3.heap[E]? = some (.deferred (some [])) := fun E hE => ⟨(e3 E hE).1, (hb3.block E (e3 E hE).2.1).trans (e3 E hE).2.2⟩
        gi_region_o
        all_goals gi_wp2
        all_goals
          unfold Exit.noGoto bodyPostM
          dsimp only
          (try rw [e1])
          refine moved.leave (n₀ := w.heap.size) Ds w3.drew e2 e3' hbX.size (fun W' hb hc => ?_)
          exact ⟨_, results_tmp3 rfl _ _ _, _, _, rfl, R_cells (Kd.R_lower hRout hbx.bel.size) hc, R_cells (W := w3) (Kd.R_of_own (own_weaken hbx3.rb (by have := hbx3.lt; have := hbx3.lw; omega)) (fun _ _ => trivial)) hc, (hbX.drew).trans hb⟩
      · have c8b0 : (q2 == 0) = false := beq_eq_false_iff_ne.mpr hq
        have c9b0 : (q2 != 0) = true := bne_iff_ne.mpr hq
        rw [if_neg hq] at hres
        simp only [Option.some.injEq, Prod.mk.injEq] at hres
        obtain ⟨rfl, rfl, rfl⟩ := hres
        gi_wp2_with (refine ⟨trivial, ?_⟩; gi_at_call 28; refine (callsIn_wide.2 hput').mono ?_; rintro e w3 ⟨v0, rfl, hRout, hb3⟩)
        have hbX := (hbx.below (Nat.le_refl _) hb3).bel
        obtain ⟨Ds, e1, e2, e3⟩ := hmk
        have e3' : ∀ E ∈ Ds, w.heap.size ≤ E ∧ w3.heap[E]? = some (.deferred (some [])) := fun E hE => ⟨(e3 E hE).1, (hb3.block E (e3 E hE).2.1).trans (e3 E hE).2.2⟩
        unfold Exit.noGoto bodyPostM
        dsimp only
        (try rw [e1])
        refine moved.leave (n₀ := w.heap.size) Ds w3 e2 e3' hbX.size (fun W' hb hc => ?_)
        exact ⟨_, results_tmp3 rfl _ _ _, _, _, rfl, Kd.R_nil _ _ _ _ _, Kd.R_nil _ _ _ _ _, hbX.trans hb⟩
set_option maxHeartbeats 4000000 in
set_option maxRecDepth 100000 in
theorem moved_check (k : Nat) (A0 : Option Addr) (c0 : Nat) (l0 : List ByteArray) (A1 : Option Addr) (c1 : Nat) (l1 : List (S46)) (a2 : Int) (w : World) (e3 : Int)
   (hr0 : Kd.C Kd.string w A0 l0.length l0) (hc0 : l0.length ≤ c0) (hr1 : Kd.C k46 w A1 l1.length l1) (hc1 : l1.length ≤ c1)
   (hchk : apply_check.f k l0 l1 = some e3) (he : e3 ≠ 0) :
    Calls Try.prog 13 #[.slice A0 l0.length c0, .slice A1 l1.length c1, .int .i64 a2] w (moved.Post w [] [] e3) := by
  refine (callsIn_wide (n := 9)).1 ?_
  have hro : Fence.wide.round = none := rfl
  refine callsIn_of_wp_marks Try.func13 rfl trivial ?_ hro
  simp only [Try.ntmps13, List.size_toArray, List.length_cons, List.length_nil, Nat.reduceAdd, Nat.reduceSub, Array.replicate_succ, Array.replicate_zero, List.push_toArray, List.append_toArray, List.nil_append, List.cons_append]
  have c1b0 : (e3 == 0) = false := beq_eq_false_iff_ne.mpr he
  have c2b0 : (e3 != 0) = true := bne_iff_ne.mpr he
  gi_wp2
  refine wpIn_wide.2 (wp_scope_straight ((wpIn_wide (n := 9)).1 ?_))
  have HB0 : Below w.heap.size w (w.alloc (.cells #[.slice A0 l0.length c0] 22)) := (Below.refl _ w).alloc (Nat.le_refl _) _
  gi_wp2_with (refine ⟨trivial, ?_⟩; gi_at_call 26; refine (callsIn_wide.2 (apply_check.calls k A0 c0 l0 A1 c1 l1 e3 _ (Kd.C_below hr0 HB0) hc0 (Kd.C_below hr1 HB0) hc1 hchk)).mono ?_; rintro e w1 ⟨rfl, hb1⟩)
  unfold Exit.noGoto bodyPostM
  dsimp only
  exact ⟨_, results_tmp3 rfl _ _ _, _, _, rfl, Kd.R_nil _ _ _ _ _, Kd.R_nil _ _ _ _ _, HB0.trans (hb1.mono (by simp))⟩
set_option maxHeartbeats 4000000 in
set_option maxRecDepth 100000 in
theorem moved_reach (k : Nat) (A0 : Option Addr) (c0 : Nat) (l0 : List ByteArray) (A1 : Option Addr) (c1 : Nat) (l1 : List (S46)) (a2 : Int) (w : World)
   (hr0 : Kd.C Kd.string w A0 l0.length l0) (hc0 : l0.length ≤ c0) (hr1 : Kd.C k46 w A1 l1.length l1) (hc1 : l1.length ≤ c1)
   (hchk : apply_check.f k l0 l1 = some 0) (he : a2 < 0 ∨ 20 < a2) :
    Calls Try.prog 13 #[.slice A0 l0.length c0, .slice A1 l1.length c1, .int .i64 a2] w (moved.Post w [] [] 2) := by
  have main : ∀ b1 b2 : Bool, decide (a2 < 0) = b1 → decide (20 < a2) = b2 → (b1 = true ∨ b2 = true) → Calls Try.prog 13 #[.slice A0 l0.length c0, .slice A1 l1.length c1, .int .i64 a2] w (moved.Post w [] [] 2) := by
    intro b1 b2 c1b0 c2b0 hor
    refine (callsIn_wide (n := 9)).1 ?_
    have hro : Fence.wide.round = none := rfl
    refine callsIn_of_wp_marks Try.func13 rfl trivial ?_ hro
    simp only [Try.ntmps13, List.size_toArray, List.length_cons, List.length_nil, Nat.reduceAdd, Nat.reduceSub, Array.replicate_succ, Array.replicate_zero, List.push_toArray, List.append_toArray, List.nil_append, List.cons_append]
    have HB0 : Below w.heap.size w (w.alloc (.cells #[.slice A0 l0.length c0] 22)) := (Below.refl _ w).alloc (Nat.le_refl _) _
    cases b1 <;> cases b2 <;> first
      | (exact absurd hor (by decide))
      | (gi_wp2; refine wpIn_wide.2 (wp_scope_straight ((wpIn_wide (n := 9)).1 ?_)); gi_wp2_with (refine ⟨trivial, ?_⟩; gi_at_call 26; refine (callsIn_wide.2 (apply_check.calls k A0 c0 l0 A1 c1 l1 0 _ (Kd.C_below hr0 HB0) hc0 (Kd.C_below hr1 HB0) hc1 hchk)).mono ?_; rintro e w1 ⟨rfl, hb1⟩); unfold Exit.noGoto bodyPostM; dsimp only; exact ⟨_, results_tmp3 rfl _ _ _, _, _, rfl, Kd.R_nil _ _ _ _ _, Kd.R_nil _ _ _ _ _, HB0.trans (hb1.mono (by simp))⟩)
  exact main _ _ rfl rfl (by rcases he with h | h; exact .inl (decide_eq_true h); exact .inr (decide_eq_true h))
theorem apply_Moved.calls (k : Nat) (A0 : Option Addr) (c0 : Nat) (l0 : List ByteArray) (A1 : Option Addr) (c1 : Nat) (l1 : List (S46)) (a2 : Int) (r1 : List ByteArray) (r2 : List Int) (r3 : Int) (w : World) (hr0 : Kd.C Kd.string w A0 l0.length l0) (hc0 : l0.length ≤ c0) (hr1 : Kd.C k46 w A1 l1.length l1) (hc1 : l1.length ≤ c1) (h : apply_Moved.f k l0 l1 a2 = some (r1, r2, r3)) :
    Calls Try.prog 13 #[.slice A0 l0.length c0, .slice A1 l1.length c1, .int .i64 a2] w fun e w' => ∃ v0_ v1_ : Value, e = .returned (.tuple #[v0_, v1_, .int .i64 r3]) ∧ Kd.R Kd.string 9 w' w.heap.size (fun _ => True) v0_ r1 ∧ Kd.R (Kd.int .i64) 3 w' w.heap.size (fun _ => True) v1_ r2 ∧ Below w.heap.size w w' := by
  unfold apply_Moved.f at h
  split at h
  · rename_i hl
    obtain ⟨e, hchk, h⟩ := Option.bind_eq_some_iff.1 h
    by_cases he : e = 0
    · subst he
      rw [if_pos rfl] at h
      by_cases hr : a2 < 0 ∨ 20 < a2
      · rw [if_pos hr] at h
        simp only [Option.some.injEq, Prod.mk.injEq] at h
        obtain ⟨rfl, rfl, rfl⟩ := h
        exact moved_reach k A0 c0 l0 A1 c1 l1 a2 w hr0 hc0 hr1 hc1 hchk hr
      · rw [if_neg hr] at h
        obtain ⟨o, hgo, hres⟩ := Option.bind_eq_some_iff.1 h
        exact moved_main k A0 c0 l0 A1 c1 l1 a2 w r1 r2 r3 hr0 hc0 hr1 hc1 o hl hchk hgo (by omega) (by omega) hres
    · rw [if_neg he] at h
      simp only [Option.some.injEq, Prod.mk.injEq] at h
      obtain ⟨rfl, rfl, rfl⟩ := h
      exact moved_check k A0 c0 l0 A1 c1 l1 a2 w e hr0 hc0 hr1 hc1 hchk he
  · cases h
end Go.Proofs.Ytnajpgimhoighaa.Pr
end
