/- blame.Trace: the trace of a line: a walk by hand (a closure over the line). -/
import Derived.Test.YtaifdgfegloafaaSG
import Derived.Test.YtaifdgfegloafaaWk
import Derived.Test.YtaifdgfegloafaaWB
import Derived.Test.YtaifdgfegloafaaF21
import Derived.Test.YtaifdgfegloafaaF29
import Derived.RegionTactic
namespace Go.Proofs.Ytaifdgfegloafaa.Pr
open Go.RowKit Go.Proofs.YtaifdgfegloafaaW.PrintWords Go.Proofs.YtaifdgfegloafaaW.PrintLast Go.Proofs.YtaifdgfegloafaaW.PrintMore
set_option linter.unusedVariables false
set_option linter.unusedSimpArgs false

theorem tInfoI : (Try.prog.info? 3).map (fun i => (i.zero, i.size, i.bytes)) = some (some (.int .i64 0), 1, 8) := by kernel_rfl
/-- The best matching of two lists. -/
def bestM (a b : List ByteArray) : List S58 := (gOf a b (a.length + b.length) 0 0).map prOf
/-- The first index from i on of a pair with this second line, or -1. -/
def posFrom (line : Int) : List S58 → Nat → Int
  | [], _ => -1
  | p :: m, i => if p.f1 = line then (i : Int) else posFrom line m (i + 1)
theorem posFrom_hit (line : Int) : ∀ (l : List S58) (i kk : Nat) (hk : kk < l.length), (∀ j (hj : j < kk), (l[j]'(by omega)).f1 ≠ line) → l[kk].f1 = line → posFrom line l i = ((i + kk : Nat) : Int)
  | s :: l, i, 0, _, _, h => by simp only [List.getElem_cons_zero] at h; simp [posFrom, h]
  | s :: l, i, kk + 1, hk, hn, h => by
    have h0 := hn 0 (by omega)
    simp only [List.getElem_cons_zero] at h0
    simp only [posFrom]
    have := posFrom_hit line l (i + 1) kk (by simpa using hk) (fun j hj => by simpa using hn (j + 1) (by omega)) (by simpa using h)
    rw [if_neg h0, this]
    omega
theorem posFrom_miss (line : Int) : ∀ (l : List S58) (i : Nat), (∀ j (hj : j < l.length), (l[j]'hj).f1 ≠ line) → posFrom line l i = -1
  | [], i, _ => rfl
  | s :: l, i, h => by
    have h0 := h 0 (by simp)
    simp only [List.getElem_cons_zero] at h0
    simp only [posFrom]
    rw [if_neg h0]
    exact posFrom_miss line l (i + 1) (fun j hj => h (j + 1) (by simpa using hj))
theorem posFrom_lt (line : Int) : ∀ (l : List S58) (i : Nat), posFrom line l i = -1 ∨ ((i : Int) ≤ posFrom line l i ∧ posFrom line l i < ((i + l.length : Nat) : Int))
  | [], i => .inl rfl
  | s :: l, i => by
    simp only [posFrom]
    split
    · exact .inr ⟨Int.le_refl _, by simp; omega⟩
    · rcases posFrom_lt line l (i + 1) with h | ⟨h1, h2⟩
      · exact .inl h
      · exact .inr ⟨by omega, by simp only [List.length_cons]; omega⟩
/-- The trace of a line of version n, the other way about. -/
def traceL (v : List (List ByteArray)) : Nat → Int → List Int
  | 0, line => [line]
  | n + 1, line => line :: (if posFrom line (bestM (v.getD n []) (v.getD (n + 1) [])) 0 < 0 then [] else traceL v n ((bestM (v.getD n []) (v.getD (n + 1) [])).getD (posFrom line (bestM (v.getD n []) (v.getD (n + 1) [])) 0).toNat z58).f0)
theorem traceL_head (v : List (List ByteArray)) (n : Nat) (line : Int) : traceL v n line = line :: (traceL v n line).tail := by
  cases n <;> rfl
/-- The error of versions. -/
def firstErr : List (List ByteArray) → Int
  | [] => 0
  | l :: v => if linesErr l = 0 then firstErr v else linesErr l
def vErr (v : List (List ByteArray)) : Int := if 10 < v.length then 4 else if v.length = 0 then 8 else firstErr v
theorem vErr_zero {v : List (List ByteArray)} (h : vErr v = 0) : v.length ≤ 10 ∧ 0 < v.length ∧ ∀ l ∈ v, linesErr l = 0 := by
  unfold vErr at h
  split at h
  · simp at h
  · split at h
    · simp at h
    · rename_i h1 h2
      refine ⟨by omega, by omega, ?_⟩
      clear h1 h2
      induction v with
      | nil => simp
      | cons l v ih =>
        simp only [firstErr] at h
        split at h
        · rename_i h3
          intro x hx
          rcases List.mem_cons.1 hx with rfl | hx
          · exact h3
          · exact ih h x hx
        · rename_i h3
          exact absurd h h3
def smallV (v : List (List ByteArray)) : Bool := v.all smallB
theorem smallV_at {v : List (List ByteArray)} (h : smallV v = true) (i : Nat) (hi : i < v.length) : small v[i] := small_of_B (List.all_eq_true.1 h _ (List.getElem_mem hi))
theorem rdL_at (v : List (List ByteArray)) (i : Nat) (h : i < v.length) : rd_Lstr v (i : Int) = v[i] := by simp [rd_Lstr, h]
theorem vcheck_loop (v : List (List ByteArray)) (hv : smallV v = true) (hl : v.length ≤ 1000000) : ∀ (d i : Nat), i + d = v.length → Ev (fun k => blame_check.l0 k v (v.length : Int) (i : Int)) (firstErr (v.drop i)) := by
  intro d
  induction d with
  | zero =>
    intro i hi
    refine Ev.step (fun k => by rw [blame_check.l0]) ?_
    rw [List.drop_eq_nil_of_le (by omega)]
    exact Ev.neg (by omega) (Ev.now _)
  | succ d ih =>
    intro i hi
    have hlt : i < v.length := by omega
    refine Ev.step (fun k => by rw [blame_check.l0]) ?_
    refine Ev.pos (by omega) (Ev.pos (by omega) (Ev.pos (by omega) ?_))
    rw [rdL_at v i hlt, drop_at v i hlt]
    refine Ev.bc (join_val v[i] (smallV_at hv i hlt)) ?_
    simp only [firstErr]
    by_cases h : linesErr v[i] = 0
    · rw [if_pos h, if_pos h]
      rw [w64 (x := (i : Int) + 1) (by omega)]
      exact Ev.pos rfl (ih (i + 1) (by omega))
    · rw [if_neg h, if_neg h]
      exact Ev.neg h (Ev.now _)
theorem vcheck_ev (v : List (List ByteArray)) (hv : smallV v = true) (hl : v.length ≤ 9000000000000000000) : Ev (fun k => blame_check.f k v) (vErr v) := by
  unfold blame_check.f vErr
  by_cases h1 : 10 < v.length
  · rw [if_pos h1]
    exact Ev.pos (by omega) (Ev.now _)
  · rw [if_neg h1]
    refine Ev.neg (by omega) ?_
    by_cases h2 : v.length = 0
    · rw [if_pos h2]
      exact Ev.pos (by omega) (Ev.now _)
    · rw [if_neg h2]
      refine Ev.neg (by omega) ?_
      have := vcheck_loop v hv (by omega) v.length 0 (by omega)
      simpa using this
theorem bestM_best (a b : List ByteArray) : bestM a b = (bestOf a b).map prOf := by rw [bestOf_gOf]; rfl
def blame_Trace.f (l0 : List (List ByteArray)) (a1 : Int) : Option (List Int × Int) := if (smallV l0 && decide (l0.length ≤ 9000000000000000000)) = true then some (if vErr l0 = 0 then (if a1 < 0 ∨ (((l0.getD (l0.length - 1) []).length : Nat) : Int) ≤ a1 then ([], 2) else ((traceL l0 (l0.length - 1) a1).reverse, 0)) else ([], vErr l0)) else none

/-- What slices.Reverse has done behind i rounds. -/
def revS (l : List Int) (i : Nat) : List Int := (List.range l.length).map fun x => if x < i ∨ l.length - i ≤ x then l.getD (l.length - 1 - x) 0 else l.getD x 0
theorem revS_length (l : List Int) (i : Nat) : (revS l i).length = l.length := by simp [revS]
theorem revS_at (l : List Int) (i x : Nat) (h : x < l.length) : rd (revS l i) (x : Int) = if x < i ∨ l.length - i ≤ x then l.getD (l.length - 1 - x) 0 else l.getD x 0 := by
  rw [rd_at (revS l i) x (by rw [revS_length]; exact h)]
  simp [revS]
theorem revS_zero (l : List Int) : revS l 0 = l := by
  apply List.ext_getElem
  · exact revS_length l 0
  · intro x h1 h2
    simp only [revS, List.getElem_map, List.getElem_range]
    rw [if_neg (by omega)]
    simp [h2]
theorem revS_end (l : List Int) (i : Nat) (h : l.length ≤ 2 * i + 1) : revS l i = l.reverse := by
  apply List.ext_getElem
  · rw [revS_length, List.length_reverse]
  · intro x h1 h2
    rw [revS_length] at h1
    simp only [revS, List.getElem_map, List.getElem_range, List.getElem_reverse]
    have hx : l.length - 1 - x < l.length := by omega
    by_cases c : x < i ∨ l.length - i ≤ x
    · rw [if_pos c]
      simp [hx]
    · rw [if_neg c]
      have e : l.length - 1 - x = x := by omega
      simp [e, h1]
theorem revS_step (l : List Int) (i : Nat) (h : 2 * i + 1 < l.length) : ((revS l i).set i (l.getD (l.length - 1 - i) 0)).set (l.length - 1 - i) (l.getD i 0) = revS l (i + 1) := by
  apply List.ext_getElem
  · rw [List.length_set, List.length_set, revS_length, revS_length]
  · intro x h1 h2
    rw [revS_length] at h2
    rw [List.getElem_set, List.getElem_set]
    simp only [revS, List.getElem_map, List.getElem_range]
    by_cases c1 : l.length - 1 - i = x
    · subst c1
      rw [if_pos rfl, if_pos (by omega)]
      congr 1
      omega
    · rw [if_neg c1]
      by_cases c2 : i = x
      · subst c2
        rw [if_pos rfl, if_pos (by omega)]
      · rw [if_neg c2]
        by_cases c3 : x < i ∨ l.length - i ≤ x
        · rw [if_pos c3, if_pos (by omega)]
        · rw [if_neg c3, if_neg (by omega)]
theorem rev_loop (l : List Int) (hl : l.length ≤ 1000000) : ∀ (d i : Nat), i + d = l.length → Ev (fun k => slices_Reverse_int_int.l0 k (revS l i) (i : Int) ((l.length : Int) - 1 - (i : Int))) l.reverse := by
  intro d
  induction d with
  | zero =>
    intro i hi
    refine Ev.step (fun k => by rw [slices_Reverse_int_int.l0]) ?_
    rw [revS_end l i (by omega)]
    exact Ev.neg (by omega) (Ev.now _)
  | succ d ih =>
    intro i hi
    refine Ev.step (fun k => by rw [slices_Reverse_int_int.l0]) ?_
    by_cases c : 2 * i + 1 < l.length
    · have e : (l.length : Int) - 1 - (i : Int) = ((l.length - 1 - i : Nat) : Int) := by omega
      rw [e]
      refine Ev.pos (by omega) (Ev.pos (by omega) (Ev.pos (by rw [revS_length]; omega) (Ev.pos (by omega) (Ev.pos (by rw [revS_length]; omega) ?_))))
      rw [revS_at l i (l.length - 1 - i) (by omega), revS_at l i i (by omega), if_neg (by omega), if_neg (by omega), Int.toNat_natCast, Int.toNat_natCast, revS_step l i c, w64 (x := (i : Int) + 1) (by omega), w64 (by omega)]
      have := ih (i + 1) (by omega)
      have e2 : (l.length : Int) - 1 - ((i + 1 : Nat) : Int) = ((l.length - 1 - i : Nat) : Int) - 1 := by omega
      rw [e2] at this
      exact this
    · rw [revS_end l i (by omega)]
      exact Ev.neg (by omega) (Ev.now _)
theorem rev_ev (l : List Int) (hl : l.length ≤ 1000000) : Ev (fun k => slices_Reverse_int_int.f k l) l.reverse := by
  unfold slices_Reverse_int_int.f
  have := rev_loop l hl l.length 0 (by omega)
  rw [revS_zero] at this
  rw [w64 (by omega)]
  simpa using this
theorem cell_kp {B : Nat} {w w1 : World} (hb : Below B w w1) {g i : Nat} {v : Value} (hg : g < B) (h : w.cell? ⟨g, i, none⟩ = some v) : w1.cell? ⟨g, i, none⟩ = some v := by
  rw [← h]
  simp only [World.cell?, hb.block g hg]
theorem at_rws {w : World} {A : Option Addr} {xs : List (List ByteArray)} (h : Kd.C (Kd.slice 9 Kd.string) w A xs.length xs) (kk : Nat) (hk : kk < xs.length) :
    ∃ b o A1 c1, A = some ⟨b, o, none⟩ ∧ w.cell? ⟨b, o + kk, none⟩ = some (.slice A1 (xs[kk]'hk).length c1) ∧ (xs[kk]'hk).length ≤ c1 ∧ Kd.C Kd.string w A1 (xs[kk]'hk).length (xs[kk]'hk) := by
  obtain ⟨b, o, rfl, _⟩ := C_addr (d := Kd.slice 9 Kd.string) (by decide) h (by omega)
  obtain ⟨ad, c, e, _, hK, hc⟩ := Kd.C_get h [] (kk : Int) (by omega) (by omega)
  injection e with e
  subst e
  have hx : xs.getD (kk : Int).toNat [] = xs[kk] := by simp [hk]
  rw [hx] at hK
  obtain ⟨A1, c1, rfl, hl, hC⟩ := hK
  have h0 := hc 0 _ rfl
  have hsz : (Kd.slice 9 Kd.string).sz = 1 := rfl
  rw [hsz, Int.toNat_natCast, Nat.mul_one, Nat.add_zero] at h0
  have ha : (⟨b, o, none⟩ : Addr).add kk = ⟨b, o + kk, none⟩ := by unfold Addr.add; split <;> simp_all
  rw [ha] at h0
  exact ⟨b, o, A1, c1, rfl, h0, hl, hC⟩
theorem trace1_any (g : Nat) (x y line : Int) (w : World) (hl : w.cell? ⟨g, 0, none⟩ = some (.int .i64 line)) :
    Calls Try.prog 28 #[.agg #[.int .i64 x, .int .i64 y], .pointer (some ⟨g, 0, none⟩)] w fun e w' => e = .returned (.bool (y == line)) ∧ Below w.heap.size w w' := by
  have hg := (cell_lt hl).2
  go_enter Try.func28, Try.ntmps28
  go_wp2
  go_ret
  exact ⟨rfl, below_alloc (Below.refl _ _) _⟩
/-- The cells of element kk of a row of pairs. -/
theorem at_pr {w : World} {A : Option Addr} {xs : List S58} (h : Kd.C k58 w A xs.length xs) (kk : Nat) (hk : kk < xs.length) :
    ∃ b o, A = some ⟨b, o, none⟩ ∧ w.cell? ⟨b, o + kk * 2, none⟩ = some (.int .i64 (xs[kk]'hk).f0) ∧ w.cell? ⟨b, o + kk * 2 + 1, none⟩ = some (.int .i64 (xs[kk]'hk).f1) := by
  obtain ⟨b, o, rfl, _⟩ := C_addr (d := k58) (by decide) h (by omega)
  obtain ⟨ad, e, h0, h1⟩ := at_T58 h (kk : Int) (by omega) (by omega)
  injection e with e
  subst e
  have hx : rd_T58 xs (kk : Int) = xs[kk] := by simp [rd_T58, hk]
  rw [hx, Int.toNat_natCast] at h0 h1
  have ha : (⟨b, o, none⟩ : Addr).add (kk * 2) = ⟨b, o + kk * 2, none⟩ := by unfold Addr.add; split <;> simp_all
  rw [ha] at h0 h1
  exact ⟨b, o, rfl, h0, h1⟩

set_option maxHeartbeats 2000000 in
theorem tidx_any (A0 : Option Addr) (c0 : Nat) (l0 : List S58) (g : Nat) (line : Int) (w : World) (hr0 : Kd.C k58 w A0 l0.length l0) (hl : w.cell? ⟨g, 0, none⟩ = some (.int .i64 line)) :
    Calls Try.prog 27 #[.slice A0 l0.length c0, .func (.func 28) #[] #[.pointer (some ⟨g, 0, none⟩)]] w fun e w' => e = .returned (.int .i64 (posFrom line l0 0)) ∧ Below w.heap.size w w' := by
  have hbig : l0.length ≤ 9223372036854775807 := hr0.2.1
  have eg : ∀ args w, (callFunc 28 args).run Try.prog w = .ok (.enter 28 args) w := enters_of Try.func28 (by kernel_rfl) rfl
  have HR0 := Aside0.mk hr0
  have HL := Aside0.mk hl
  have HG := Aside0.mk (cell_lt hl).2
  clear hr0 hl
  go_enter Try.func27, Try.ntmps27
  go_wp2
  go_loopg [5, 8] l0.length (fun gg _ s8 wr => ∃ kk : Nat, kk ≤ l0.length ∧ l0.length - kk ≤ gg ∧ s8 = .int .i64 kk ∧ Aside0 (Below w.heap.size w wr) ∧ Aside0 (∀ j (hj : j < l0.length), j < kk → (l0[j]'hj).f1 ≠ line))
  case atStart => exact ⟨0, Nat.zero_le _, by omega, rfl, ⟨Below.refl _ _⟩, ⟨fun j _ hj => absurd hj (Nat.not_lt_zero _)⟩⟩
  case round =>
    obtain ⟨kk, hkk, hg, rfl, HB, HN⟩ := hrel
    by_cases hlt : kk < l0.length
    · have hltz : (kk : Int) < (l0.length : Int) := by omega
      obtain ⟨pb, po, rfl, hp0, hp1⟩ := at_pr (Kd.C_below HR0.out HB.out) kk hlt
      obtain ⟨x, hx⟩ : ∃ x, x = (l0[kk]).f0 := ⟨_, rfl⟩
      obtain ⟨y, hy⟩ : ∃ y, y = (l0[kk]).f1 := ⟨_, rfl⟩
      rw [← hx] at hp0
      rw [← hy] at hp1
      have HY := Aside0.mk hy
      clear hx hy
      have hcall := fun (w1 : World) (h1 : w1.cell? ⟨g, 0, none⟩ = some (.int .i64 line)) => trace1_any g x y line w1 h1
      cases hq : (y == line) with
      | true =>
        rw [hq] at hcall
        go_wp2_with (go_at_fn 28; refine (hcall _ (cell_kp HB.out HG.out HL.out)).mono ?_; rintro e w' ⟨rfl, hb⟩; have HB2 := Aside0.mk hb; clear hb)
        go_ret
        refine ⟨?_, below_then HB.out (Below.size HB.out) HB2.out⟩
        rw [posFrom_hit line l0 0 kk hlt (fun j hj => HN.out j (by omega) hj) (by rw [← HY.out]; simpa using hq)]
        simp
      | false =>
        rw [hq] at hcall
        go_wp2_with (go_at_fn 28; refine (hcall _ (cell_kp HB.out HG.out HL.out)).mono ?_; rintro e w' ⟨rfl, hb⟩; have HB2 := Aside0.mk hb; clear hb)
        go_roundg (l0.length - (kk + 1))
        case measure => omega
        case rel =>
          refine ⟨kk + 1, by omega, by omega, by go_num, ⟨below_then HB.out (Below.size HB.out) HB2.out⟩, ⟨fun j hjl hj => ?_⟩⟩
          by_cases e : j = kk
          · subst e
            rw [← HY.out]; simpa using hq
          · exact HN.out j hjl (by omega)
    · have hltz : ¬ (kk : Int) < (l0.length : Int) := by omega
      have hk : kk = l0.length := by omega
      have HK := Aside0.mk hk
      clear hk
      go_wp2
      go_ret
      refine ⟨?_, HB.out⟩
      rw [posFrom_miss line l0 0 (fun j hj => HN.out j hj (by rw [HK.out]; exact hj))]
      rfl

set_option maxHeartbeats 8000000 in
set_option maxRecDepth 100000 in
theorem blame_Trace.calls (A0 : Option Addr) (c0 : Nat) (l0 : List (List ByteArray)) (a1 : Int) (r1 : List Int) (r2 : Int) (w : World) (hr0 : Kd.C (Kd.slice 9 Kd.string) w A0 l0.length l0) (hc0 : l0.length ≤ c0) (h : blame_Trace.f l0 a1 = some (r1, r2)) :
    Calls Try.prog 11 #[.slice A0 l0.length c0, .int .i64 a1] w fun e w' => ∃ v0_ : Value, e = .returned (.tuple #[v0_, .int .i64 r2]) ∧ Kd.R (Kd.int .i64) 3 w' w.heap.size (fun _ => True) v0_ r1 ∧ Below w.heap.size w w' := by
  unfold blame_Trace.f at h
  split at h
  · rename_i hsm
    simp only [Bool.and_eq_true, decide_eq_true_eq] at hsm
    obtain ⟨hsv, hbig⟩ := hsm
    obtain ⟨kc, hkc⟩ := (vcheck_ev l0 hsv hbig).rounds
    injection h with h
    have HR0 := Aside0.mk hr0
    have HC0 := Aside0.mk hc0
    have HSV := Aside0.mk hsv
    clear hr0 hc0 hsv
    obtain ⟨g, hg⟩ : ∃ g, g = w.heap.size := ⟨_, rfl⟩
    have HG := Aside0.mk hg
    by_cases he : vErr l0 = 0
    · rw [if_pos he] at h
      rw [he] at hkc
      obtain ⟨hn10, hnp, hall⟩ := vErr_zero he
      have HKC := Aside0.mk hkc
      have HALL := Aside0.mk hall
      clear hkc hall he
      obtain ⟨last, hlast⟩ : ∃ n, l0.length = n + 1 := ⟨l0.length - 1, by omega⟩
      have hll : last < l0.length := by omega
      have e1 : l0.getD (l0.length - 1) [] = l0[last] := by
        rw [show l0.length - 1 = last by omega]
        simp [hll]
      have e2 : l0.length - 1 = last := by omega
      rw [e1, e2] at h
      clear e1 e2
      by_cases h0 : a1 < 0
      · rw [if_pos (.inl h0)] at h
        injection h with h2 h3
        subst h2
        subst h3
        have d1 : decide (a1 < 0) = true := decide_eq_true h0
        clear h0
        have HLA := Aside0.mk hlast
        have HLL := Aside0.mk hll
        have HN1 := Aside0.mk hn10
        have HNP := Aside0.mk hnp
        have HBG := Aside0.mk hbig
        clear hlast hll hn10 hnp hg
        go_enter Try.func11, Try.ntmps11
        go_upto_region 5 with (go_at_call 21; refine (blame_check.calls kc A0 c0 l0 0 _ (Kd.C_alloc HR0.out _) HC0.out HKC.out).mono ?_; rintro e w1 ⟨rfl, hb⟩; have hbx : w1.cell? ⟨w.heap.size, 0, none⟩ = some (.int .i64 a1) := cell_kp hb (by simp) ((blk_cell (blk_new w _) 0).trans rfl); have HB := Aside0.mk hb; clear hb)
        go_quiet (fail)
        go_wp2
        go_ret2
        exact ⟨_, rfl, Kd.R_nil _ _ _ _ _, pw_below_drewN (below_then (below_alloc (Below.refl _ _) _) (by simp) HB.out) _⟩
      · have d1 : decide (a1 < 0) = false := decide_eq_false h0
        have HAS := Aside0.mk hbig
        have HLA := Aside0.mk hlast
        have HN1 := Aside0.mk hn10
        clear hnp hg
        have hlz : ((l0.length : Int) - 1) = (last : Int) := by omega
        have HLZ := Aside0.mk (show wrap64 ((l0.length : Int) - 1) = (last : Int) by rw [hlz, w64 (by omega)])
        have hl0 : (0 : Int) ≤ (last : Int) := by omega
        have hl1 : (last : Int) < (l0.length : Int) := by omega
        clear hlz hlast hn10 hbig
        obtain ⟨row, hrow⟩ : ∃ r, r = l0[last] := ⟨_, rfl⟩
        rw [← hrow] at h
        have HRO := Aside0.mk hrow
        clear hrow
        by_cases h1 : ((row.length : Nat) : Int) ≤ a1
        · rw [if_pos (.inr h1)] at h
          injection h with h2 h3
          subst h2
          subst h3
          have d2 : decide ((row.length : Int) ≤ a1) = true := decide_eq_true h1
          clear h0 h1
          go_enter Try.func11, Try.ntmps11
          go_upto_region 5 with (go_at_call 21; refine (blame_check.calls kc A0 c0 l0 0 _ (Kd.C_alloc HR0.out _) HC0.out HKC.out).mono ?_; rintro e w1 ⟨rfl, hb⟩; have hbx : w1.cell? ⟨w.heap.size, 0, none⟩ = some (.int .i64 a1) := cell_kp hb (by simp) ((blk_cell (blk_new w _) 0).trans rfl); have HB := Aside0.mk hb; clear hb)
          obtain ⟨rb, ro, Ar, cr, rfl, hcr, hlr, hCr⟩ := at_rws (Kd.C_below (Kd.C_alloc HR0.out _) HB.out) last hll
          rw [← HRO.out] at hcr hlr hCr
          rw [HLZ.out]
          have HLR := Aside0.mk hlr
          have HCR := Aside0.mk hCr
          clear hlr hCr
          go_quiet (fail)
          go_wp2
          go_ret2
          exact ⟨_, rfl, Kd.R_nil _ _ _ _ _, pw_below_drewN (below_then (below_alloc (Below.refl _ _) _) (by simp) HB.out) _⟩
        · rw [if_neg (by omega)] at h
          injection h with h2 h3
          subst h2
          subst h3
          have d2 : decide ((row.length : Int) ≤ a1) = false := decide_eq_false h1
          clear h0 h1
          go_enter Try.func11, Try.ntmps11
          go_upto_region 5 with (go_at_call 21; refine (blame_check.calls kc A0 c0 l0 0 _ (Kd.C_alloc HR0.out _) HC0.out HKC.out).mono ?_; rintro e w1 ⟨rfl, hb⟩; have hbx : w1.cell? ⟨w.heap.size, 0, none⟩ = some (.int .i64 a1) := cell_kp hb (by simp) ((blk_cell (blk_new w _) 0).trans rfl); have HB := Aside0.mk hb; clear hb)
          obtain ⟨rb, ro, Ar, cr, rfl, hcr, hlr, hCr⟩ := at_rws (Kd.C_below (Kd.C_alloc HR0.out _) HB.out) last hll
          rw [← HRO.out] at hcr hlr hCr
          rw [HLZ.out]
          clear hlr hCr
          go_quiet (fail)
          have hbk : w1.heap[w.heap.size]? = some (.cells #[.int .i64 a1] 3 (0, 0)) := (HB.out.block _ (by simp)).trans (blk_new w _)
          have HBK := Aside0.mk hbk
          have HB1 := Aside0.mk (below_then (below_alloc (Below.refl w.heap.size w) (.cells #[.int .i64 a1] 3)) (by simp) HB.out)
          have hsz1 : w.heap.size < w1.heap.size := blk_lt hbk
          clear hbk
          go_wp2_with ((with_reducible refine gate_dst (N := 33) rfl ?_); refine Kd.R_lit (Kd.int .i64) (w0 := w) w.heap.size 3 ?hg (N := 33) ?hd (xs := ([a1] : List Int)) (inner := [.int .i64 a1]) (ok := fun k_ => k_ ≠ w.heap.size) (okp := fun _ => False) ?hr ?hp (fun _ hk => hk.elim) ?hf ?hB ?hs (by simp) ?_; (case hd => rfl); (case hg => rfl); (case hr => first | (go_simp; done) | (go_simp; rfl)); (case hp => exact Reps.snoc (Reps.none _ _) (show Kd.M (Kd.int .i64) _ _ _ a1 [.int .i64 a1] from rfl) rfl); (case hf => exact Nat.ne_of_gt hsz1); (case hB => exact pw_below_drewN HB1.out _); (case hs => exact Nat.le_of_lt hsz1); intro v8 w2 hR hb hg hat; have HR8 := Aside0.mk hR; have HB2 := Aside0.mk hb; have HG2 := Aside0.mk hg; clear hR hb hg hat)
          have HBX := Aside0.mk (blk_grown (blk_drewN HBK.out nq) HG2.out (by simp))
          clear HG2 hcr d1 d2 hbx hsz1
          go_loopg [8, 9] (last + 1) (fun gg s8 s9 wr => ∃ (n : Nat) (line : Int) (xs : List Int), n ≤ last ∧ n ≤ gg ∧ s9 = .int .i64 n ∧ Aside0 (Kd.R (Kd.int .i64) 3 wr w.heap.size (fun k_ => k_ ≠ w.heap.size) s8 xs) ∧ Aside0 (Below w.heap.size w wr) ∧ Aside0 (wr.heap[w.heap.size]? = some (.cells #[.int .i64 line] 3 (0, 0))) ∧ Aside0 (traceL l0 last a1 = xs ++ (traceL l0 n line).tail) ∧ Aside0 (xs.length + n ≤ last + 1))
          case atStart => exact ⟨last, a1, [a1], Nat.le_refl _, by omega, rfl, HR8, HB2, HBX, ⟨traceL_head l0 last a1⟩, ⟨by simp; omega⟩⟩
          case round =>
            clear HR8 HB2 HBX HBK HB1
            obtain ⟨n, line, xs, hn, hgg, rfl, HR8, HB, HBX, HT, HLN⟩ := hrel
            by_cases hn0 : n = 0
            · subst hn0
              have HRz := HR8
              have HBz := HB
              obtain ⟨kr, hkr⟩ := (rev_ev xs (by have := HLN.out; have h2 := HN1.out; have h3 := HLA.out; omega)).rounds
              have HKR := Aside0.mk hkr
              have HEQ := Aside0.mk (show xs.reverse = (traceL l0 last a1).reverse by rw [HT.out]; simp [traceL])
              clear hkr
              go_wp2_with (go_at_call 29; refine (slices_Reverse_int_int.calls kr (fun k_ => k_ ≠ w.heap.size) _ xs xs.reverse w _ HBz.out HRz.out HKR.out).mono ?_; rintro e w9 ⟨rfl, hR9, hB9, hK9⟩; have HR9 := Aside0.mk hR9; have HB9 := Aside0.mk hB9; clear hR9 hB9 hK9)
              go_ret2
              exact ⟨_, rfl, by rw [← HEQ.out]; exact Kd.R_mono HR9.out (fun _ _ => trivial), HB9.out⟩
            · obtain ⟨nn, hnn⟩ : ∃ m, n = m + 1 := ⟨n - 1, by omega⟩
              have HWN := Aside0.mk (show wrap64 ((n : Int) - 1) = (nn : Int) by rw [w64 (by have := HN1.out; omega)]; omega)
              have hnz : (0 : Int) < (n : Int) := by omega
              have hnl : (n : Int) < (l0.length : Int) := by have := HLA.out; omega
              have hml : (nn : Int) < (l0.length : Int) := by have := HLA.out; omega
              have hmz : (0 : Int) ≤ (nn : Int) := by omega
              have hnn1 : nn < l0.length := by have := HLA.out; omega
              have hnn2 : n < l0.length := by have := HLA.out; omega
              obtain ⟨b', o', Ax, cx, eA, hx, hlx, hCx⟩ := at_rws (Kd.C_below HR0.out HB.out) nn hnn1
              injection eA with eA
              injection eA with e1 e2
              subst e1
              subst e2
              obtain ⟨b', o', Ay, cy, eA, hy, hly, hCy⟩ := at_rws (Kd.C_below HR0.out HB.out) n hnn2
              injection eA with eA
              injection eA with e1 e2
              subst e1
              subst e2
              obtain ⟨x1, hx1⟩ : ∃ x, x = l0[nn] := ⟨_, rfl⟩
              obtain ⟨x2, hx2⟩ : ∃ x, x = l0[n] := ⟨_, rfl⟩
              have hs1 : small x1 := by rw [hx1]; exact smallV_at HSV.out nn hnn1
              have hs2 : small x2 := by rw [hx2]; exact smallV_at HSV.out n hnn2
              have hb0 : bothErr x1 x2 = 0 := bothErr_zero.2 ⟨by rw [hx1]; exact HALL.out _ (List.getElem_mem hnn1), by rw [hx2]; exact HALL.out _ (List.getElem_mem hnn2)⟩
              obtain ⟨kb, hkb⟩ := (best_ev x1 x2 hs1 hs2).rounds
              rw [if_pos hb0, ← bestM_best] at hkb
              obtain ⟨m1, hm1⟩ : ∃ m, m = bestM x1 x2 := ⟨_, rfl⟩
              rw [← hm1] at hkb
              have hml1 : m1.length ≤ 60 := by
                rw [hm1, bestM_best, List.length_map, bestOf_length]
                exact Nat.le_trans (lcsLen_le_left x1 x2) (linesErr_zero (bothErr_zero.1 hb0).1).1
              have hTT : (traceL l0 n line).tail = if posFrom line m1 0 < 0 then [] else traceL l0 nn (m1.getD (posFrom line m1 0).toNat z58).f0 := by
                rw [hnn]
                have g1 : l0.getD nn [] = x1 := by rw [hx1]; simp [hnn1]
                have g2 : l0.getD (nn + 1) [] = x2 := by rw [← hnn, hx2]; simp [hnn2]
                simp only [traceL, List.tail_cons, g1, g2, ← hm1]
              rw [← hx1] at hx hlx hCx
              rw [← hx2] at hy hly hCy
              have C1 := Aside0.mk hx
              have C2 := Aside0.mk hy
              have LX1 := Aside0.mk hlx
              have LX2 := Aside0.mk hly
              have CX1 := Aside0.mk (Kd.C_drew hCx)
              have CX2 := Aside0.mk (Kd.C_drew hCy)
              have KB := Aside0.mk hkb
              have LRB := Aside0.mk (cell_lt hx).2
              have HTT := Aside0.mk hTT
              have HNN := Aside0.mk hnn
              have HM1 := Aside0.mk hml1
              clear hx hy hlx hly hCx hCy hkb hx1 hx2 hs1 hs2 hb0 hm1 hTT hnn hml1 hn0
              go_wp2
              refine start_ (n := 15) (S := fun w' => w'.cell? ⟨rb, ro + nn, none⟩ = some (.slice Ax x1.length cx) ∧ w'.cell? ⟨rb, ro + n, none⟩ = some (.slice Ay x2.length cy)) (ds := []) #[false, false, false, false, false, false, false, false, false, false, false, false, false, false, false] (by kernel_rfl) rfl rfl ⟨C1.out, C2.out⟩ (fun hHeld => ?_)
              refine pure_ (i := 0) (N := some 40) (v := ?_) (a' := ?_) #[true, false, false, false, false, false, false, false, false, false, false, false, false, false, false] rfl rfl (by kernel_rfl) (fun _ _ _ h => h) (Or.inl ⟨by rfl, ?_⟩) ?_ ?_
              rotate_left
              · intro w'
                go_simp
                with_reducible rfl
              rotate_left
              · simp only [Act.put, List.setIfInBounds_toArray, List.set_cons_zero, List.set_cons_succ, i64_w, i32_w, HWN.out]
                rfl
              refine pure_ (i := 1) (N := some 41) (v := ?_) (a' := ?_) #[true, true, false, false, false, false, false, false, false, false, false, false, false, false, false] rfl rfl (by kernel_rfl) (fun _ _ _ h => h) (Or.inl ⟨by rfl, ?_⟩) ?_ ?_
              rotate_left
              · intro w'
                go_simp
                with_reducible rfl
              rotate_left
              · simp only [Act.put, List.setIfInBounds_toArray, List.set_cons_zero, List.set_cons_succ, i64_w, i32_w, HWN.out]
                rfl
              refine pure_ (i := 2) (N := some 42) (v := ?_) (a' := ?_) #[true, true, true, false, false, false, false, false, false, false, false, false, false, false, false] rfl rfl (by kernel_rfl) (fun _ _ _ h => h) (Or.inl ⟨by rfl, ?_⟩) ?_ ?_
              rotate_left
              · intro w'
                go_simp
                with_reducible rfl
              rotate_left
              · simp only [Act.put, List.setIfInBounds_toArray, List.set_cons_zero, List.set_cons_succ, i64_w, i32_w, HWN.out]
                rfl
              refine pure_ (i := 3) (N := some 43) (v := ?_) (a' := ?_) #[true, true, true, true, false, false, false, false, false, false, false, false, false, false, false] rfl rfl (by kernel_rfl) (fun _ _ _ h => h) (Or.inl ⟨by rfl, ?_⟩) ?_ ?_
              rotate_left
              · intro w'
                go_simp
                with_reducible rfl
              rotate_left
              · simp only [Act.put, List.setIfInBounds_toArray, List.set_cons_zero, List.set_cons_succ, i64_w, i32_w, HWN.out]
                rfl
              refine pure_ (i := 5) (N := some 45) (v := ?_) (a' := ?_) #[true, true, true, true, false, true, false, false, false, false, false, false, false, false, false] rfl rfl (by kernel_rfl) (fun _ _ _ h => h) (Or.inl ⟨by rfl, ?_⟩) ?_ ?_
              rotate_left
              · intro w'
                go_simp
                with_reducible rfl
              rotate_left
              · simp only [Act.put, List.setIfInBounds_toArray, List.set_cons_zero, List.set_cons_succ, i64_w, i32_w, HWN.out]
                rfl
              refine pure_ (i := 6) (N := some 46) (v := ?_) (a' := ?_) #[true, true, true, true, false, true, true, false, false, false, false, false, false, false, false] rfl rfl (by kernel_rfl) (fun _ _ _ h => h) (Or.inl ⟨by rfl, ?_⟩) ?_ ?_
              rotate_left
              · intro w'
                go_simp
                with_reducible rfl
              rotate_left
              · simp only [Act.put, List.setIfInBounds_toArray, List.set_cons_zero, List.set_cons_succ, i64_w, i32_w, HWN.out]
                rfl
              refine pure_ (i := 7) (N := some 47) (v := ?_) (a' := ?_) #[true, true, true, true, false, true, true, true, false, false, false, false, false, false, false] rfl rfl (by kernel_rfl) (fun _ _ _ h => h) (Or.inl ⟨by rfl, ?_⟩) ?_ ?_
              rotate_left
              · intro w'
                go_simp
                with_reducible rfl
              rotate_left
              · simp only [Act.put, List.setIfInBounds_toArray, List.set_cons_zero, List.set_cons_succ, i64_w, i32_w, HWN.out]
                rfl
              refine take_ (i := 4) (N := some 44) (v := ?_) (a' := ?_) #[true, true, true, true, true, true, true, true, false, false, false, false, false, false, false] rfl rfl (by kernel_rfl) (fun _ _ _ h => h) (Or.inl ⟨by rfl, ?_⟩) hHeld ?_ ?_
              rotate_left
              · rintro w' ⟨s0, s1⟩
                go_simp
                with_reducible rfl
              rotate_left
              · simp only [Act.put, List.setIfInBounds_toArray, List.set_cons_zero, List.set_cons_succ, i64_w, i32_w, HWN.out]
                rfl
              refine take_ (i := 8) (N := some 48) (v := ?_) (a' := ?_) #[true, true, true, true, true, true, true, true, true, false, false, false, false, false, false] rfl rfl (by kernel_rfl) (fun _ _ _ h => h) (Or.inl ⟨by rfl, ?_⟩) hHeld ?_ ?_
              rotate_left
              · rintro w' ⟨s0, s1⟩
                go_simp
                with_reducible rfl
              rotate_left
              · simp only [Act.put, List.setIfInBounds_toArray, List.set_cons_zero, List.set_cons_succ, i64_w, i32_w, HWN.out]
                rfl
              refine one_ (i := 9) (N := some 49) #[true, true, true, true, true, true, true, true, true, true, false, false, false, false, false] rfl rfl (by kernel_rfl) (by decide) (fun K hK => ?_)
              refine goes_ Try.func26 (by kernel_rfl) rfl #[.slice Ax x1.length cx, .slice Ay x2.length cy] (by rfl) rfl rfl (by simp only [List.map_toArray, List.map_cons, List.map_nil]; rfl) ?_
              with_reducible refine (lcs_Best.calls kb Ax cx x1 Ay cy x2 m1 0 _ CX1.out LX1.out CX2.out LX2.out KB.out).mono ?_
              rintro e w2 ⟨v49, rfl, hv49, hb2⟩
              refine ⟨_, rfl, ?_⟩
              obtain ⟨Am, cm, rfl⟩ := Kd.R_slice hv49
              have V49 := Aside0.mk hv49
              have HB2 := Aside0.mk hb2
              clear hv49 hb2
              refine hK.out _ _ ⟨(cell_kp HB2.out (by exact LRB.out) hHeld.1), (cell_kp HB2.out (by exact LRB.out) hHeld.2)⟩ (fun hHeld => ?_)
              clear hK K
              refine norm_ (a' := ?_) ?_ ?_
              rotate_left
              · show Act.put _ (some 49) _ = _
                simp only [Act.put, List.setIfInBounds_toArray, List.set_cons_zero, List.set_cons_succ, i64_w, i32_w, HWN.out]
                rfl
              refine pure_ (i := 10) (N := some 39) (v := ?_) (a' := ?_) #[true, true, true, true, true, true, true, true, true, true, true, false, false, false, false] rfl rfl (by kernel_rfl) (fun _ _ _ h => h) (Or.inl ⟨by rfl, ?_⟩) ?_ ?_
              rotate_left
              · intro w'
                go_simp
                with_reducible rfl
              rotate_left
              · simp only [Act.put, List.setIfInBounds_toArray, List.set_cons_zero, List.set_cons_succ, i64_w, i32_w, HWN.out]
                rfl
              refine pure_ (i := 11) (N := some 50) (v := ?_) (a' := ?_) #[true, true, true, true, true, true, true, true, true, true, true, true, false, false, false] rfl rfl (by kernel_rfl) (fun _ _ _ h => h) (Or.inl ⟨by rfl, ?_⟩) ?_ ?_
              rotate_left
              · intro w'
                go_simp
                with_reducible rfl
              rotate_left
              · simp only [Act.put, List.setIfInBounds_toArray, List.set_cons_zero, List.set_cons_succ, i64_w, i32_w, HWN.out]
                rfl
              refine pure_ (i := 12) (N := some 51) (v := ?_) (a' := ?_) #[true, true, true, true, true, true, true, true, true, true, true, true, true, false, false] rfl rfl (by kernel_rfl) (fun _ _ _ h => h) (Or.inl ⟨by rfl, ?_⟩) ?_ ?_
              rotate_left
              · intro w'
                go_simp
                with_reducible rfl
              rotate_left
              · simp only [Act.put, List.setIfInBounds_toArray, List.set_cons_zero, List.set_cons_succ, i64_w, i32_w, HWN.out]
                rfl
              refine pure_ (i := 13) (N := some 10) (v := ?_) (a' := ?_) #[true, true, true, true, true, true, true, true, true, true, true, true, true, true, false] rfl rfl (by kernel_rfl) (fun _ _ _ h => h) (Or.inl ⟨by rfl, ?_⟩) ?_ ?_
              rotate_left
              · intro w'
                go_simp
                with_reducible rfl
              rotate_left
              · simp only [Act.put, List.setIfInBounds_toArray, List.set_cons_zero, List.set_cons_succ, i64_w, i32_w, HWN.out]
                rfl
              refine pure_ (i := 14) (N := some 11) (v := ?_) (a' := ?_) #[true, true, true, true, true, true, true, true, true, true, true, true, true, true, true] rfl rfl (by kernel_rfl) (fun _ _ _ h => h) (Or.inl ⟨by rfl, ?_⟩) ?_ ?_
              rotate_left
              · intro w'
                go_simp
                with_reducible rfl
              rotate_left
              · simp only [Act.put, List.setIfInBounds_toArray, List.set_cons_zero, List.set_cons_succ, i64_w, i32_w, HWN.out]
                rfl
              refine done_ (by kernel_rfl) ?_
              have hbw : Below w.heap.size w w2 := below_then (show Below w.heap.size w wr.drew from below_drew HB.out) (show w.heap.size ≤ wr.heap.size from Below.size HB.out) HB2.out
              have hR8 := Kd.R_below (Kd.R_drew HR8.out) HB2.out
              have hbx : w2.heap[w.heap.size]? = some (.cells #[.int .i64 line] 3 (0, 0)) := (HB2.out.block _ (blk_lt (blk_drew HBX.out))).trans (blk_drew HBX.out)
              have hcm : Kd.C k58 w2 Am m1.length m1 := (Kd.R_reads' V49.out).2.2
              have HBw := Aside0.mk hbw
              have HR8w := Aside0.mk hR8
              have HBXw := Aside0.mk hbx
              have HCM := Aside0.mk hcm
              have hbc := (blk_cell hbx 0).trans rfl
              clear hbw hR8 hbx hcm HB HR8 HBX C1 C2 CX1 CX2 V49
              rcases posFrom_lt line m1 0 with hip | ⟨hip1, hip2⟩
              · have hcall := fun W (h1 : Kd.C k58 W Am m1.length m1) (h2 : W.cell? ⟨w.heap.size, 0, none⟩ = some (.int .i64 line)) => tidx_any Am cm m1 w.heap.size line W h1 h2
                rw [hip] at hcall
                have HIP := Aside0.mk (show posFrom line m1 0 < 0 by rw [hip]; decide)
                clear hip
                go_wp2_with (go_at_call 27; refine (hcall _ HCM.out hbc).mono ?_; rintro e w3 ⟨rfl, hb3⟩; have HB3 := Aside0.mk hb3; clear hb3)
                have HRz := Aside0.mk (Kd.R_below HR8w.out HB3.out)
                have HBz := Aside0.mk (below_then HBw.out (Below.size HBw.out) HB3.out)
                obtain ⟨kr, hkr⟩ := (rev_ev xs (by have := HLN.out; have h2 := HN1.out; have h3 := HLA.out; omega)).rounds
                have HKR := Aside0.mk hkr
                have HEQ := Aside0.mk (show xs.reverse = (traceL l0 last a1).reverse by rw [HT.out, HTT.out, if_pos HIP.out]; simp)
                clear hkr
                go_wp2_with (go_at_call 29; refine (slices_Reverse_int_int.calls kr (fun k_ => k_ ≠ w.heap.size) _ xs xs.reverse w _ HBz.out HRz.out HKR.out).mono ?_; rintro e w9 ⟨rfl, hR9, hB9, hK9⟩; have HR9 := Aside0.mk hR9; have HB9 := Aside0.mk hB9; clear hR9 hB9 hK9)
                go_ret2
                exact ⟨_, rfl, by rw [← HEQ.out]; exact Kd.R_mono HR9.out (fun _ _ => trivial), HB9.out⟩
              · obtain ⟨pp, hpp⟩ : ∃ q : Nat, posFrom line m1 0 = (q : Int) := ⟨(posFrom line m1 0).toNat, by omega⟩
                have hcall := fun W (h1 : Kd.C k58 W Am m1.length m1) (h2 : W.cell? ⟨w.heap.size, 0, none⟩ = some (.int .i64 line)) => tidx_any Am cm m1 w.heap.size line W h1 h2
                rw [hpp] at hcall hip2
                have hpl : pp < m1.length := by omega
                have hppz : (pp : Int) < (m1.length : Int) := by omega
                have hpp0 : (0 : Int) ≤ (pp : Int) := by omega
                have HTU := Aside0.mk (show (traceL l0 n line).tail = traceL l0 nn (m1[pp]).f0 by
                  rw [HTT.out, hpp, if_neg (by omega), Int.toNat_natCast]
                  simp [hpl])
                clear hip1 hip2 hpp HTT
                obtain ⟨mb, mo, rfl, hq0, hq1⟩ := at_pr HCM.out pp hpl
                obtain ⟨nl, hnl2⟩ : ∃ q, q = (m1[pp]).f0 := ⟨_, rfl⟩
                rw [← hnl2] at hq0
                have HNL := Aside0.mk hnl2
                have hmbl := (cell_lt hq0).2
                have HQ0 := Aside0.mk hq0
                have HMB := Aside0.mk hmbl
                clear hnl2 hq1 hq0 hmbl
                go_upto_region 15 with (go_at_call 27; refine (hcall _ HCM.out hbc).mono ?_; rintro e w3 ⟨rfl, hb3⟩; have hq3 := cell_kp hb3 HMB.out HQ0.out; have hk3 : w3.heap[w.heap.size]? = some (.cells #[.int .i64 line] 3 (0, 0)) := (hb3.block _ (blk_lt HBXw.out)).trans HBXw.out; have hbc3 := (blk_cell hk3 0).trans rfl; have hfz := blk_frozen hk3 0; have HK3 := Aside0.mk hk3; have HB3 := Aside0.mk hb3; clear hb3 hk3)
                obtain ⟨w4, hw4⟩ : ∃ x, x = w3.setCell ⟨w.heap.size, 0, none⟩ (.int .i64 nl) := ⟨_, rfl⟩
                have hk4 := blk_put HK3.out 0 (.int .i64 nl) (cs' := #[.int .i64 nl]) rfl
                have hr4 := Kd.R_far (p := ⟨w.heap.size, 0, none⟩) (Kd.R_below HR8w.out HB3.out) (fun k_ hk => hk) (.int .i64 nl)
                have hb4 := below_set (j := 0) (v := .int .i64 nl) (below_then HBw.out (Below.size HBw.out) HB3.out) (Nat.le_refl w.heap.size)
                rw [← hw4] at hk4 hr4 hb4 ⊢
                have HK4 := Aside0.mk hk4
                have HR4 := Aside0.mk hr4
                have HB4 := Aside0.mk hb4
                have hbc4 := (blk_cell hk4 0).trans rfl
                have hsz4 : w.heap.size < w4.heap.size := blk_lt hk4
                clear hw4 hk4 hr4 hb4 hq3 hbc hbc3 hfz
                go_wp2_with ((with_reducible refine gate_builtin (b := .append) (xs := #[.tmp 62, .tmp 64]) rfl ?_); at_builtin; refine Kd.R_append (Kd.int .i64) (w0 := w) w.heap.size rfl (.tmp 62) (.tmp 64) 30 3 (.int .i64 0) 8 rfl Try.underlying30 tInfoI rfl (by decide) (by omega) _ xs nl [.int .i64 nl] (fun k_ => k_ ≠ w.heap.size) (fun _ => False) rfl rfl ?aP (fun _ hk => hk.elim) ?aF ?aO ?aB ?aS ?aL ?_; (case aP => exact rfl); (case aB => exact HB4.out); (case aF => exact (fun k_ hk => Nat.ne_of_gt (Nat.lt_of_lt_of_le hsz4 hk))); (case aO => exact HR4.out); (case aS => exact Nat.le_of_lt hsz4); (case aL => have h5 := HLN.out; have h6 := HN1.out; have h7 := HLA.out; omega); intro v9 w5 hR hb hg hat; have HR5 := Aside0.mk hR; have HB5 := Aside0.mk hb; have HG5 := Aside0.mk hg; clear hR hb hg hat)
                have HK5 := Aside0.mk (blk_grown HK4.out HG5.out (fun e => HR4.out.1 _ e.symm rfl))
                rw [HWN.out]
                go_roundg nn
                case measure => have := HNN.out; omega
                case rel => exact ⟨nn, nl, xs ++ [nl], by have := HNN.out; omega, Nat.le_refl _, (by first | rfl | (simp; done)), HR5, HB5, HK5, ⟨by rw [HT.out, HTU.out, ← HNL.out, traceL_head l0 nn nl, List.append_assoc]; rfl⟩, ⟨by have := HLN.out; have h2 := HNN.out; rw [List.length_append, List.length_singleton]; omega⟩⟩
    · rw [if_neg he] at h
      injection h with h2 h3
      subst h2
      have HKC := Aside0.mk hkc
      obtain ⟨ev, hev⟩ : ∃ n, n = vErr l0 := ⟨_, rfl⟩
      rw [← hev] at hkc h3 he
      subst h3
      have he1 : (ev == 0) = false := by simpa using he
      have he2 : (ev != 0) = true := by simpa using he
      have HKC := Aside0.mk hkc
      clear hkc he hev hg hbig
      go_enter Try.func11, Try.ntmps11
      go_wp2_with (go_at_call 21; refine (blame_check.calls kc A0 c0 l0 ev _ (Kd.C_alloc HR0.out _) HC0.out HKC.out).mono ?_; rintro e w1 ⟨rfl, hb⟩; have HB := Aside0.mk hb; clear hb)
      go_ret2
      exact ⟨_, rfl, Kd.R_nil _ _ _ _ _, below_then (below_alloc (Below.refl _ _) _) (by simp) HB.out⟩
  · cases h
end Go.Proofs.Ytaifdgfegloafaa.Pr
