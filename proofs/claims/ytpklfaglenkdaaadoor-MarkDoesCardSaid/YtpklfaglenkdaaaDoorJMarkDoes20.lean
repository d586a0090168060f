/- Part 20 of the proof of MarkDoes: texts put together. -/
import Derived.Test.YtpklfaglenkdaaaDoorJMarkDoes1
import Derived.Test.YtpklfaglenkdaaaDoorJMarkDoes8
import Derived.Test.YtpklfaglenkdaaaDoorJMarkDoes11
import Derived.Test.YtpklfaglenkdaaaDoorJMarkDoes13
import Derived.Test.YtpklfaglenkdaaaDoorJMarkDoes19
import Derived.Deep.Slices
import Derived.ChangeSame
import Derived.SizedLaws
set_option linter.unusedVariables false
set_option linter.unusedSimpArgs false
section
namespace Go.Proofs.YtpklfaglenkdaaaDoor.Pr
open Go.RowKit Go.Proofs.YtpklfaglenkdaaaDoorW.PrintWords Go.Proofs.YtpklfaglenkdaaaDoorW.PrintLast Go.Proofs.YtpklfaglenkdaaaDoorW.PrintMore
theorem mplain_fine {l : List ByteArray} (h : mplainB l = true) : rowfine l = true := by
 unfold mplainB at h
 rw [wide_any, Bool.and_eq_true, Bool.not_eq_true', Bool.or_eq_false_iff, decide_eq_true_eq] at h
 unfold rowfine
 rw [Bool.and_eq_true, decide_eq_true_eq, List.all_eq_true]
 refine ⟨by omega, fun s hs => decide_eq_true ?_⟩
 have h2 := List.any_eq_false.1 h.2.1 s hs
 have h3 : ¬ 2000 < s.size := fun hn => h2 (decide_eq_true hn)
 omega
theorem mbad_fine {x : S43} (h : mbad x = false) : pfine x = true ∧ x.f1.length ≤ 60 ∧ x.f2.length ≤ 60 ∧ x.f3.length ≤ 60 := by
 unfold mbad at h
 simp only [Bool.or_eq_false_iff, Bool.not_eq_false'] at h
 obtain ⟨h1, h2, h3, _⟩ := h
 refine ⟨?_, mplain_len h1, mplain_len h2, mplain_len h3⟩
 unfold pfine
 rw [mplain_fine h1, mplain_fine h2, mplain_fine h3]
 rfl
theorem check_fine {l : List S43} (h : checkP l = 0) : wfine l = true ∧ l.length ≤ 130 ∧ l.all pfine = true := by
 obtain ⟨h1, h2⟩ := checkP_zero h
 have h3 : l.all pfine = true := List.all_eq_true.2 fun x hx => (mbad_fine (h2 x hx)).1
 refine ⟨?_, h1, h3⟩
 unfold wfine
 rw [decide_eq_true (by omega), h3]
 rfl
def writeP (l : List S43) : List ByteArray × Int := if checkP l = 0 then (if 400 < (wAll l []).length then ([], 4) else (wAll l [], 0)) else ([], checkP l)
theorem write_ev (l : List S43) : Ev (fun k => mark_Write.f k l) (writeP l) := by
 unfold mark_Write.f writeP
 refine Ev.bc (mcheck_val l) ?_
 by_cases h : checkP l = 0
 ·refine Ev.eq (if_pos h).symm ?_
  exact Ev.pos h (Ev.pos (check_fine h).1 (Ev.now _))
 ·refine Ev.eq (if_neg h).symm ?_
  exact Ev.neg h (Ev.now _)
theorem rwrite_loop (l : List S43) (hl : l.length ≤ 130) (hf : l.all pfine = true) : ∀ (d i : Nat) (out : List ByteArray), i + d = l.length → out.length ≤ 5000 * i → Ev (fun k => sidingref19_Write.l0 k l out (i : Int)) (if 400 < (wAll (l.drop i) out).length then ([], 4) else (wAll (l.drop i) out, 0)) := by
 intro d
 induction d with
 | zero =>
  intro i out hi ho
  obtain rfl : i = l.length := by omega
  refine Ev.step (fun k => by rw [sidingref19_Write.l0]) (Ev.neg (by omega) ?_)
  rw [List.drop_length]
  unfold wAll
  by_cases h : 400 < out.length
  ·rw [if_pos h]
   exact Ev.pos (by omega) (Ev.now _)
  ·rw [if_neg h]
   exact Ev.neg (by omega) (Ev.now _)
 | succ d ih =>
  intro i out hi ho
  have h : i < l.length := by omega
  have hp := List.all_eq_true.1 hf _ (List.getElem_mem h)
  have hpl := wPiece_len (o := out) hp
  have hpf := hp
  unfold pfine at hpf
  rw [Bool.and_eq_true, Bool.and_eq_true] at hpf
  have f1 := (rowfine_len hpf.1).1
  have f2 := (rowfine_len hpf.2.1).1
  have f3 := (rowfine_len hpf.2.2).1
  have next := ih (i + 1) (wPiece l[i] out) (by omega) (by omega)
  refine Ev.step (fun k => by rw [sidingref19_Write.l0]) (Ev.pos (by omega) (Ev.pos (by omega) ?_))
  rw [rd_p _ _ h, w64 (by omega), drop_at l i h]
  rw [show wAll (l[i] :: l.drop (i + 1)) out = wAll (l.drop (i + 1)) (wPiece l[i] out) from rfl]
  by_cases hk : l[i].f0 = 5
  ·refine Ev.pos hk (Ev.pos (by omega) (Ev.bs (Ev.bd (all_ev _ hpf.2.1) (Ev.pos (by simp; omega) (Ev.bs (Ev.pos (by simp; omega) (Ev.bs (Ev.bd (all_ev _ hpf.1) (Ev.pos (by simp; omega) (Ev.bs (Ev.pos (by simp; omega) (Ev.bs (Ev.bd (all_ev _ hpf.2.2) (Ev.pos (by simp; omega) (Ev.bs (Ev.pos (by simp; omega) ?_))))))))))))))))
   have e : wPiece l[i] out = out ++ [mk0] ++ l[i].f2.map wrB ++ [mk1] ++ l[i].f1.map wrB ++ [mk2] ++ l[i].f3.map wrB ++ [mk3] := by
    unfold wPiece
    rw [if_pos hk]
    rfl
   rw [e] at next ⊢
   exact next
  ·have e : wPiece l[i] out = out ++ (resL l[i]).map wrB := by
    unfold wPiece
    rw [if_neg hk]
   refine Ev.neg hk ?_
   unfold sidingref19_Lines.f
   by_cases h3 : l[i].f0 = 3
   ·have er : resL l[i] = l[i].f3 := if_pos h3
    rw [e, er] at next
    rw [e, er]
    refine Ev.bc (if_pos h3) (Ev.bd (all_ev _ hpf.2.2) (Ev.pos (by simp; omega) next))
   ·have er : resL l[i] = l[i].f2 := if_neg h3
    rw [e, er] at next
    rw [e, er]
    refine Ev.bc (if_neg h3) (Ev.bd (all_ev _ hpf.2.1) (Ev.pos (by simp; omega) next))
theorem rwrite_ev (l : List S43) (ht : ∀ x ∈ l, tinyP x) : Ev (fun k => sidingref19_Write.f k l) (writeP l) := by
 unfold sidingref19_Write.f writeP
 refine Ev.bd (pcheck_ev l ht) ?_
 by_cases h : checkP l = 0
 ·refine Ev.eq (if_pos h).symm ?_
  obtain ⟨_, h1, h2⟩ := check_fine h
  have := rwrite_loop l h1 h2 l.length 0 [] (by omega) (by simp)
  exact Ev.pos h (by simpa using this)
 ·refine Ev.eq (if_neg h).symm ?_
  exact Ev.neg h (Ev.bd (pcheck_ev l ht) (Ev.now _))
end Go.Proofs.YtpklfaglenkdaaaDoor.Pr
end
section
namespace Go.Proofs.YtpklfaglenkdaaaDoor.Pr
open Go.RowKit Go.Proofs.YtpklfaglenkdaaaDoorW.PrintWords Go.Proofs.YtpklfaglenkdaaaDoorW.PrintLast Go.Proofs.YtpklfaglenkdaaaDoorW.PrintMore
def readV (l : List ByteArray) : List S43 × Int := if 400 < l.length then ([], 4) else match mr l 0 [] [] [] [] with
 | none => ([], 12)
 | some out => if checkP out = 0 then (out, 0) else ([], 8)
theorem read_ev (l : List ByteArray) : Ev (fun k => mark_Read.f k l) (readV l) := by
 unfold mark_Read.f readV
 by_cases h : 400 < l.length
 ·refine Ev.eq (if_pos h).symm ?_
  exact Ev.pos h (Ev.now _)
 ·refine Ev.eq (if_neg h).symm ?_
  refine Ev.neg h ?_
  cases hm : mr l 0 [] [] [] [] with
  | none => exact Ev.now _
  | some out =>
   show Ev (fun k => (merge_Check.f out).bind fun e => if e = 0 then some (out, 0) else some ([], 8)) (if checkP out = 0 then (out, 0) else ([], 8))
   refine Ev.bc (mcheck_val out) ?_
   by_cases hc : checkP out = 0
   ·refine Ev.eq (if_pos hc).symm ?_
    exact Ev.pos hc (Ev.now _)
   ·refine Ev.eq (if_neg hc).symm ?_
    exact Ev.neg hc (Ev.now _)
def restOk (l : List ByteArray) : Prop := ∀ s t, l = s :: t → 0 ≤ markN s
theorem unt_rest : ∀ (l : List ByteArray), restOk (l.drop (untL l).2)
 | [] => fun s t h => by simp [untL] at h
 | x :: l => by
  unfold untL
  split
  ·rename_i h0
   intro s t h
   have := (List.cons.inj h).1
   rw [← this]
   exact h0
  ·exact unt_rest l
theorem mr_unt : ∀ (l : List ByteArray) (st : Int) (o p1 p2 : List ByteArray) (out : List S43), mr l st o p1 p2 out = mr (l.drop (untL l).2) st (o ++ (untL l).1) p1 p2 out
 | [], st, o, p1, p2, out => by simp [untL]
 | x :: l, st, o, p1, p2, out => by
  unfold untL
  by_cases h : 0 ≤ markN x
  ·rw [if_pos h]
   simp
  ·rw [if_neg h]
   show _ = mr (l.drop (untL l).2) st (o ++ rdB x :: (untL l).1) p1 p2 out
   rw [show mr (x :: l) st o p1 p2 out = mr l st (o ++ [rdB x]) p1 p2 out from if_pos (by omega), mr_unt l st (o ++ [rdB x]) p1 p2 out, List.append_assoc]
   rfl
def sideV (K : Int) : List ByteArray → Option (List ByteArray × List ByteArray)
 | [] => none
 | s :: t => if markN s = K then some ((untL t).1, t.drop (untL t).2) else none
theorem side_cons (K : Int) (s : ByteArray) (t : List ByteArray) : sideV K (s :: t) = if markN s = K then some ((untL t).1, t.drop (untL t).2) else none := rfl
theorem mr_cons (s : ByteArray) (l : List ByteArray) (st : Int) (o p1 p2 : List ByteArray) (out : List S43) : mr (s :: l) st o p1 p2 out = if markN s < 0 then mr l st (o ++ [rdB s]) p1 p2 out else if markN s ≠ st then none else
   if st = 0 then mr l 1 [] [] [] (kIf o out) else if st = 1 then mr l 2 [] o [] out else if st = 2 then mr l 3 [] p1 o out else mr l 0 [] [] [] (out ++ [⟨5, p2, p1, o⟩]) := rfl
theorem side_rest {K : Int} {l : List ByteArray} {a : List ByteArray × List ByteArray} (h : sideV K l = some a) : restOk a.2 ∧ a.2.length < l.length := by
 cases l with
 | nil => cases h
 | cons s t =>
  rw [side_cons] at h
  by_cases c : markN s = K
  ·rw [if_pos c] at h
   obtain rfl := Option.some.inj h
   exact ⟨unt_rest t, by rw [List.length_cons]; show (t.drop (untL t).2).length < _; rw [List.length_drop]; omega⟩
  ·rw [if_neg c] at h
   cases h
theorem rr1_ev (K : Int) (l : List ByteArray) (hl : l.length ≤ 1000) : Ev (fun k => rr1 k K l) (sideV K l) := by
 cases l with
 | nil => exact Ev.now _
 | cons s t =>
  rw [List.length_cons] at hl
  unfold sideV
  show Ev (fun k => (sidingref19_Mark.f s).bind fun m => if m = K then ((sidingref19_until.f k t).bind fun u => if uok u t.length = true then some (some (u.1, t.drop u.2.toNat)) else none) else some none) _
  refine Ev.bc (rmark_val s) ?_
  by_cases h : markN s = K
  ·refine Ev.eq (if_pos h).symm ?_
   refine Ev.pos h (Ev.bd (until_ev t (by omega)) (Ev.pos ?_ (Ev.rt ?_)))
   ·obtain ⟨u1, u2⟩ := untL_len t
    unfold uok
    rw [Bool.and_eq_true, Bool.and_eq_true, decide_eq_true_eq, decide_eq_true_eq, decide_eq_true_eq]
    exact ⟨by show (0 : Int) ≤ ((untL t).2 : Int); omega, by show ((untL t).2 : Int) ≤ (t.length : Int); omega, by show (untL t).1.length ≤ 1000; omega⟩
   ·rw [Int.toNat_natCast]
  ·refine Ev.eq (if_neg h).symm ?_
   exact Ev.neg h (Ev.now _)
theorem mr_zero {l : List ByteArray} (hr : restOk l) (hn : l ≠ []) (o p1 p2 : List ByteArray) (out : List S43) : mr l 0 o p1 p2 out = (sideV 0 l).bind fun a => mr a.2 1 a.1 [] [] (kIf o out) := by
 cases l with
 | nil => exact absurd rfl hn
 | cons s t =>
  have h0 := hr s t rfl
  rw [mr_cons, side_cons, if_neg (by omega)]
  by_cases h : markN s = 0
  ·rw [if_neg (fun hn => hn h), if_pos rfl, if_pos h, mr_unt t]
   rfl
  ·rw [if_pos h, if_neg h]
   rfl
theorem mr_one {l : List ByteArray} (hr : restOk l) (o p1 p2 : List ByteArray) (out : List S43) : mr l 1 o p1 p2 out = (sideV 1 l).bind fun a => mr a.2 2 a.1 o [] out := by
 cases l with
 | nil => rfl
 | cons s t =>
  have h0 := hr s t rfl
  rw [mr_cons, side_cons, if_neg (by omega)]
  by_cases h : markN s = 1
  ·rw [if_neg (fun hn => hn h), if_neg (by decide), if_pos rfl, if_pos h, mr_unt t]
   rfl
  ·rw [if_pos h, if_neg h]
   rfl
theorem mr_two {l : List ByteArray} (hr : restOk l) (o p1 p2 : List ByteArray) (out : List S43) : mr l 2 o p1 p2 out = (sideV 2 l).bind fun a => mr a.2 3 a.1 p1 o out := by
 cases l with
 | nil => rfl
 | cons s t =>
  have h0 := hr s t rfl
  rw [mr_cons, side_cons, if_neg (by omega)]
  by_cases h : markN s = 2
  ·rw [if_neg (fun hn => hn h), if_neg (by decide), if_neg (by decide), if_pos rfl, if_pos h, mr_unt t]
   rfl
  ·rw [if_pos h, if_neg h]
   rfl
theorem mr_three {s : ByteArray} {t : List ByteArray} (hr : restOk (s :: t)) (o p1 p2 : List ByteArray) (out : List S43) : mr (s :: t) 3 o p1 p2 out = if markN s = 3 then mr t 0 [] [] [] (out ++ [⟨5, p2, p1, o⟩]) else none := by
 have h0 := hr s t rfl
 rw [mr_cons, if_neg (by omega)]
 by_cases h : markN s = 3
 ·rw [if_neg (fun hn => hn h), if_neg (by decide), if_neg (by decide), if_neg (by decide), if_pos h]
 ·rw [if_pos h, if_neg h]
theorem kIf_len (o : List ByteArray) (out : List S43) : (kIf o out).length ≤ out.length + 1 := by
 unfold kIf
 split
 ·simp
 ·omega
theorem rrO_ev : ∀ (n : Nat) (l : List ByteArray) (out : List S43), l.length < n → l.length ≤ 400 → out.length + 2 * l.length ≤ 990 → Ev (fun k => rrO k n l out) (mr l 0 [] [] [] out) := by
 intro n
 induction n with
 | zero => intro l out h; omega
 | succ n ih =>
  intro l out hn hl ho
  obtain ⟨u1, u2⟩ := untL_len l
  have hrest := unt_rest l
  rw [mr_unt l, List.nil_append]
  show Ev (fun k => (sidingref19_until.f k l).bind fun u => if uok u l.length = true ∧ out.length ≤ 1000 then (if l.drop u.2.toNat = [] then some (some (rrK u out)) else
   (rrS k 3 0 [] [] [] (l.drop u.2.toNat)).bind fun r => (rrM r).bind fun r => match r with
    | none => some none
    | some (x, t) => rrO k n t (rrK u out ++ [⟨5, x.2.1, x.1, x.2.2⟩])) else none) _
  refine Ev.bd (until_ev l (by omega)) (Ev.pos ⟨?_, by omega⟩ ?_)
  ·unfold uok
   rw [Bool.and_eq_true, Bool.and_eq_true, decide_eq_true_eq, decide_eq_true_eq, decide_eq_true_eq]
   exact ⟨by show (0 : Int) ≤ ((untL l).2 : Int); omega, by show ((untL l).2 : Int) ≤ (l.length : Int); omega, by show (untL l).1.length ≤ 1000; omega⟩
  ·have ek : rrK ((untL l).1, ((untL l).2 : Int)) out = kIf (untL l).1 out := by
    unfold rrK kIf
    rw [u1]
    by_cases h : 0 < (untL l).2
    ·rw [if_pos h, if_pos (by show (0 : Int) < ((untL l).2 : Int); omega)]
    ·rw [if_neg h, if_neg (by show ¬ (0 : Int) < ((untL l).2 : Int); omega)]
   rw [ek]
   show Ev (fun k => if l.drop ((untL l).2 : Int).toNat = [] then _ else (rrS k 3 0 [] [] [] (l.drop ((untL l).2 : Int).toNat)).bind _) _
   rw [Int.toNat_natCast]
   have hl1 : (l.drop (untL l).2).length ≤ l.length := by rw [List.length_drop]; omega
   have hk := kIf_len (untL l).1 out
   obtain ⟨l1, e1⟩ : ∃ l1, l1 = l.drop (untL l).2 := ⟨_, rfl⟩
   obtain ⟨o1, e2⟩ : ∃ o1, o1 = (untL l).1 := ⟨_, rfl⟩
   rw [← e1] at hrest hl1 ⊢
   rw [← e2] at hk ⊢
   by_cases h1 : l1 = []
   ·rw [h1]
    exact Ev.pos rfl (Ev.now _)
   ·refine Ev.neg h1 ?_
    rw [mr_zero hrest h1]
    have s0 := rr1_ev 0 l1 (by omega)
    cases c0 : sideV 0 l1 with
    | none =>
     rw [c0] at s0
     exact Ev.bd (Ev.bd s0 (Ev.now _)) (Ev.now _)
    | some a =>
     rw [c0] at s0
     obtain ⟨r0, g0⟩ := side_rest c0
     show Ev _ (mr a.2 1 a.1 [] [] (kIf o1 out))
     rw [mr_one r0]
     have s1 := rr1_ev 1 a.2 (by omega)
     cases c1 : sideV 1 a.2 with
     | none =>
      rw [c1] at s1
      exact Ev.bd (Ev.bd s0 (Ev.bd s1 (Ev.now _))) (Ev.now _)
     | some b =>
      rw [c1] at s1
      obtain ⟨r1, g1⟩ := side_rest c1
      show Ev _ (mr b.2 2 b.1 a.1 [] (kIf o1 out))
      rw [mr_two r1]
      have s2 := rr1_ev 2 b.2 (by omega)
      cases c2 : sideV 2 b.2 with
      | none =>
       rw [c2] at s2
       exact Ev.bd (Ev.bd s0 (Ev.bd s1 (Ev.bd s2 (Ev.now _)))) (Ev.now _)
      | some c =>
       rw [c2] at s2
       obtain ⟨r2, g2⟩ := side_rest c2
       show Ev _ (mr c.2 3 c.1 a.1 b.1 (kIf o1 out))
       refine Ev.bd (Ev.bd s0 (Ev.bd s1 (Ev.bd s2 (Ev.now _)))) ?_
       show Ev (fun k => (rrM (some ((a.1, b.1, c.1), c.2))).bind _) _
       obtain ⟨cl, ct⟩ := c
       cases ct with
       | nil => exact Ev.now _
       | cons s t =>
        rw [mr_three r2]
        unfold rrM
        dsimp only
        rw [rmark_val]
        by_cases h3 : markN s = 3
        ·rw [if_pos h3]
         show Ev (fun k => ((if markN s = 3 then some (some ((a.1, b.1, cl), t)) else some none).bind _)) _
         rw [if_pos h3]
         have gt : t.length < b.2.length := by have := g2; simp only [List.length_cons] at this; omega
         exact ih t (kIf o1 out ++ [⟨5, b.1, a.1, cl⟩]) (by omega) (by omega) (by rw [List.length_append]; simp only [List.length_cons, List.length_nil]; omega)
        ·rw [if_neg h3]
         show Ev (fun k => ((if markN s = 3 then some (some ((a.1, b.1, cl), t)) else some none).bind _)) _
         rw [if_neg h3]
         exact Ev.now _
theorem rd_size (s : ByteArray) : (rdB s).size ≤ s.size := by
 unfold rdB
 split
 ·rw [ByteArray.size_extract]; omega
 ·exact Nat.le_refl _
theorem kIf_tiny {o : List ByteArray} {out : List S43} (ho : tiny o ∧ o.length ≤ 1000000) (h : ∀ x ∈ out, tinyP x) : ∀ x ∈ kIf o out, tinyP x := by
 unfold kIf
 split
 ·intro x hx
  rcases List.mem_append.1 hx with hx | hx
  ·exact h x hx
  ·obtain rfl := List.mem_singleton.1 hx
   exact ⟨ho, ho, ho⟩
 ·exact h
theorem mr_good : ∀ (l : List ByteArray) (st : Int) (o p1 p2 : List ByteArray) (out R : List S43), tiny l → tiny o → o.length + l.length ≤ 1000000 → (tiny p1 ∧ p1.length ≤ 1000000) → (tiny p2 ∧ p2.length ≤ 1000000) → (∀ x ∈ out, tinyP x) → mr l st o p1 p2 out = some R → ∀ x ∈ R, tinyP x
 | [], st, o, p1, p2, out, R, hl, ho, hn, h1, h2, hx, h => by
  simp only [List.length_nil] at hn
  have h' : (if st = 0 then some (kIf o out) else none) = some R := h
  split at h'
  ·obtain rfl := Option.some.inj h'
   exact kIf_tiny ⟨ho, by omega⟩ hx
  ·cases h'
 | s :: l, st, o, p1, p2, out, R, hl, ho, hn, h1, h2, hx, h => by
  rw [List.length_cons] at hn
  have hl' : tiny l := fun y hy => hl y (List.mem_cons_of_mem _ hy)
  have nil : tiny ([] : List ByteArray) := fun y hy => by cases hy
  rw [mr_cons] at h
  by_cases c1 : markN s < 0
  ·rw [if_pos c1] at h
   refine mr_good l st (o ++ [rdB s]) p1 p2 out R hl' (fun y hy => ?_) (by rw [List.length_append]; simp; omega) h1 h2 hx h
   rcases List.mem_append.1 hy with hy | hy
   ·exact ho y hy
   ·obtain rfl := List.mem_singleton.1 hy
    have := rd_size s
    have := hl s List.mem_cons_self
    omega
  ·rw [if_neg c1] at h
   by_cases c2 : markN s = st
   ·rw [if_neg (fun hn => hn c2)] at h
    have e0 : ([] : List ByteArray).length ≤ 1000000 := Nat.zero_le _
    have eo : tiny o ∧ o.length ≤ 1000000 := ⟨ho, by omega⟩
    split at h
    ·exact mr_good l 1 [] [] [] _ R hl' nil (by simp; omega) ⟨nil, e0⟩ ⟨nil, e0⟩ (kIf_tiny eo hx) h
    ·split at h
     ·exact mr_good l 2 [] o [] _ R hl' nil (by simp; omega) eo ⟨nil, e0⟩ hx h
     ·split at h
      ·exact mr_good l 3 [] p1 o _ R hl' nil (by simp; omega) h1 eo hx h
      ·refine mr_good l 0 [] [] [] _ R hl' nil (by simp; omega) ⟨nil, e0⟩ ⟨nil, e0⟩ (fun x hx2 => ?_) h
       rcases List.mem_append.1 hx2 with hx2 | hx2
       ·exact hx x hx2
       ·obtain rfl := List.mem_singleton.1 hx2
        exact ⟨h2, h1, eo⟩
   ·rw [if_pos c2] at h
    cases h
theorem rread_ev (l : List ByteArray) (ht : tiny l) : Ev (fun k => ref19_Read.f k l) (readV l) := by
 unfold ref19_Read.f readV
 by_cases h : 400 < l.length
 ·refine Ev.eq (if_pos h).symm ?_
  exact Ev.pos h (Ev.now _)
 ·refine Ev.eq (if_neg h).symm (Ev.neg h (Ev.bd (rrO_ev (l.length + 1) l [] (by omega) (by omega) (by simp; omega)) ?_))
  cases hm : mr l 0 [] [] [] [] with
  | none => exact Ev.now _
  | some out =>
   have nil : tiny ([] : List ByteArray) := fun y hy => by cases hy
   have hg := mr_good l 0 [] [] [] [] out ht nil (by simp; omega) ⟨nil, Nat.zero_le _⟩ ⟨nil, Nat.zero_le _⟩ (fun x hx => by cases hx) hm
   show Ev (fun k => (sidingref18_Check.f k out).bind fun e => if e = 0 then some (out, 0) else some ([], 8)) (if checkP out = 0 then (out, 0) else ([], 8))
   refine Ev.bd (pcheck_ev out hg) ?_
   by_cases hc : checkP out = 0
   ·exact Ev.eq (if_pos hc).symm (Ev.pos hc (Ev.now _))
   ·exact Ev.eq (if_neg hc).symm (Ev.neg hc (Ev.now _))
end Go.Proofs.YtpklfaglenkdaaaDoor.Pr
end
section
namespace Go.Proofs.YtpklfaglenkdaaaDoor.Pr
open Go.RowKit Go.Proofs.YtpklfaglenkdaaaDoorW.PrintWords Go.Proofs.YtpklfaglenkdaaaDoorW.PrintLast Go.Proofs.YtpklfaglenkdaaaDoorW.PrintMore
def clashN (l : List S43) : Nat := l.countP (fun x => decide (x.f0 = 5))
def joinRes (l : List ByteArray) : List ByteArray × Int := if linesErr l = 0 then (l, 0) else ([], linesErr l)
theorem clash_loop (l : List S43) (hl : l.length ≤ 130) : ∀ (d i n : Nat), i + d = l.length → n ≤ i → Ev (fun k => merge_Clashes.l0 k (n : Int) l (l.length : Int) (i : Int)) (((n + clashN (l.drop i) : Nat) : Int), (0 : Int)) := by
 intro d
 induction d with
 | zero =>
  intro i n h hn
  refine Ev.step (fun k => by rw [merge_Clashes.l0]) ?_
  refine Ev.neg (by omega) (Ev.rt ?_)
  rw [List.drop_eq_nil_of_le (by omega)]
  rfl
 | succ d ih =>
  intro i n h hn
  have hlt : i < l.length := by omega
  have hd : l.drop i = l[i] :: l.drop (i + 1) := List.drop_eq_getElem_cons hlt
  refine Ev.step (fun k => by rw [merge_Clashes.l0]) ?_
  refine Ev.pos (by omega) (Ev.pos (by omega) (Ev.pos (by omega) ?_))
  rw [rd_p l i hlt, hd]
  have ei : wrap64 ((i : Int) + 1) = ((i + 1 : Nat) : Int) := by rw [w64 (by omega)]; omega
  rw [ei]
  by_cases e : l[i].f0 = 5
  ·have en : wrap64 ((n : Int) + 1) = ((n + 1 : Nat) : Int) := by rw [w64 (by omega)]; omega
   rw [en]
   refine Ev.pos e ?_
   have := ih (i + 1) (n + 1) (by omega) (by omega)
   have hc : n + clashN (l[i] :: l.drop (i + 1)) = n + 1 + clashN (l.drop (i + 1)) := by
    unfold clashN
    rw [List.countP_cons, if_pos (decide_eq_true e)]
    omega
   rw [hc]
   exact this
  ·refine Ev.neg e ?_
   have := ih (i + 1) n (by omega) (by omega)
   have hc : clashN (l[i] :: l.drop (i + 1)) = clashN (l.drop (i + 1)) := by
    unfold clashN
    rw [List.countP_cons, if_neg (by simpa using e)]
    rfl
   rw [hc]
   exact this
theorem clashV_ev (l : List S43) : Ev (fun k => merge_Clashes.f k l) (if checkP l = 0 then ((clashN l : Int), (0 : Int)) else (0, checkP l)) := by
 unfold merge_Clashes.f
 refine Ev.bc (mcheck_val l) ?_
 by_cases h : checkP l = 0
 ·refine Ev.eq (if_pos h).symm (Ev.pos h ?_)
  have := clash_loop l (checkP_zero h).1 l.length 0 0 (by omega) (Nat.le_refl _)
  rw [List.drop_zero, Nat.zero_add] at this
  exact this
 ·exact Ev.eq (if_neg h).symm (Ev.neg h (Ev.now _))
theorem rclash_loop (l : List S43) (hl : l.length ≤ 130) : ∀ (d i n : Nat), i + d = l.length → n ≤ i → Ev (fun k => sidingref18_Clashes.l0 k l (n : Int) (i : Int)) (((n + clashN (l.drop i) : Nat) : Int), (0 : Int)) := by
 intro d
 induction d with
 | zero =>
  intro i n h hn
  refine Ev.step (fun k => by rw [sidingref18_Clashes.l0]) ?_
  refine Ev.neg (by omega) (Ev.rt ?_)
  rw [List.drop_eq_nil_of_le (by omega)]
  rfl
 | succ d ih =>
  intro i n h hn
  have hlt : i < l.length := by omega
  have hd : l.drop i = l[i] :: l.drop (i + 1) := List.drop_eq_getElem_cons hlt
  refine Ev.step (fun k => by rw [sidingref18_Clashes.l0]) ?_
  refine Ev.pos (by omega) (Ev.pos (by omega) ?_)
  rw [rd_p l i hlt, hd]
  have ei : wrap64 ((i : Int) + 1) = ((i + 1 : Nat) : Int) := by rw [w64 (by omega)]; omega
  rw [ei]
  by_cases e : l[i].f0 = 5
  ·have en : wrap64 ((n : Int) + 1) = ((n + 1 : Nat) : Int) := by rw [w64 (by omega)]; omega
   rw [en]
   refine Ev.pos e ?_
   have := ih (i + 1) (n + 1) (by omega) (by omega)
   have hc : n + clashN (l[i] :: l.drop (i + 1)) = n + 1 + clashN (l.drop (i + 1)) := by
    unfold clashN
    rw [List.countP_cons, if_pos (decide_eq_true e)]
    omega
   rw [hc]
   exact this
  ·refine Ev.neg e ?_
   have := ih (i + 1) n (by omega) (by omega)
   have hc : clashN (l[i] :: l.drop (i + 1)) = clashN (l.drop (i + 1)) := by
    unfold clashN
    rw [List.countP_cons, if_neg (by simpa using e)]
    rfl
   rw [hc]
   exact this
theorem rclashV_ev (l : List S43) (ht : ∀ x ∈ l, tinyP x) : Ev (fun k => sidingref18_Clashes.f k l) (if checkP l = 0 then ((clashN l : Int), (0 : Int)) else (0, checkP l)) := by
 unfold sidingref18_Clashes.f
 refine Ev.bd (pcheck_ev l ht) ?_
 by_cases h : checkP l = 0
 ·refine Ev.eq (if_pos h).symm (Ev.pos h ?_)
  have := rclash_loop l (checkP_zero h).1 l.length 0 0 (by omega) (Nat.le_refl _)
  rw [List.drop_zero, Nat.zero_add] at this
  exact this
 ·exact Ev.eq (if_neg h).symm (Ev.neg h (Ev.bd (pcheck_ev l ht) (Ev.now _)))
theorem clashN_five {x : S43} {t : List S43} (h : x.f0 = 5) : clashN (x :: t) = clashN t + 1 := by
 unfold clashN
 rw [List.countP_cons, if_pos (decide_eq_true h)]
theorem clashN_other {x : S43} {t : List S43} (h : ¬ x.f0 = 5) : clashN (x :: t) = clashN t := by
 unfold clashN
 rw [List.countP_cons, if_neg (by simpa using h)]
 rfl
def pickV (c : Int) (x : S43) : List ByteArray := if c = 1 then x.f2 else if c = 2 then x.f3 else if c = 3 then x.f1 else if c = 4 then x.f2 ++ x.f3 else []
theorem pick1 (x : S43) : pickV 1 x = x.f2 := if_pos rfl
theorem pick2 (x : S43) : pickV 2 x = x.f3 := by unfold pickV; rw [if_neg (by decide), if_pos rfl]
theorem pick3 (x : S43) : pickV 3 x = x.f1 := by unfold pickV; rw [if_neg (by decide), if_neg (by decide), if_pos rfl]
theorem pick4 (x : S43) : pickV 4 x = x.f2 ++ x.f3 := by unfold pickV; rw [if_neg (by decide), if_neg (by decide), if_neg (by decide), if_pos rfl]
def chL : List S43 → List Int → List ByteArray
 | [], _ => []
 | x :: t, cs => if x.f0 = 5 then pickV (cs.headD 0) x ++ chL t cs.tail else resL x ++ chL t cs
theorem pick_tiny {x : S43} (c : Int) (h : tinyP x) : tiny (pickV c x) := by
 obtain ⟨⟨h1, _⟩, ⟨h2, _⟩, ⟨h3, _⟩⟩ := h
 unfold pickV
 intro s hs
 split at hs
 ·exact h2 s hs
 ·split at hs
  ·exact h3 s hs
  ·split at hs
   ·exact h1 s hs
   ·split at hs
    ·rcases List.mem_append.1 hs with hs | hs
     ·exact h2 s hs
     ·exact h3 s hs
    ·cases hs
theorem res_tiny {x : S43} (h : tinyP x) : tiny (resL x) := by
 obtain ⟨⟨h1, _⟩, ⟨h2, _⟩, ⟨h3, _⟩⟩ := h
 unfold resL
 split
 ·exact h3
 ·exact h2
theorem tiny_append {a b : List ByteArray} (ha : tiny a) (hb : tiny b) : tiny (a ++ b) := fun s hs => by
 rcases List.mem_append.1 hs with hs | hs
 ·exact ha s hs
 ·exact hb s hs
theorem choose_end (out : List ByteArray) (ht : tiny out) : Ev (fun k => (lines_Join.f out).bind fun j => if j.2 = 0 then some (out, (0 : Int)) else some (([] : List ByteArray), j.2)) (joinRes out) := by
 refine Ev.bc (join_val out ht.small) ?_
 unfold joinRes
 by_cases h : linesErr out = 0
 ·refine Ev.eq (if_pos h).symm ?_
  rw [if_pos h]
  exact Ev.pos rfl (Ev.now _)
 ·refine Ev.eq (if_neg h).symm ?_
  rw [if_neg h]
  exact Ev.neg h (Ev.now _)
theorem pchoose_loop (l : List S43) (hl : l.length ≤ 130) (ht : ∀ x ∈ l, tinyP x) (hb : ∀ x ∈ l, x.f1.length ≤ 60 ∧ x.f2.length ≤ 60 ∧ x.f3.length ≤ 60) : ∀ (d i : Nat) (cs : List Int) (out : List ByteArray), i + d = l.length → cs.length = clashN (l.drop i) → (∀ c ∈ cs, badc c = false) → cs.length ≤ 1000 → tiny out → out.length ≤ 200 * i →
  Ev (fun k => mark_Choose.l0 k cs out l (l.length : Int) (i : Int)) (joinRes (out ++ chL (l.drop i) cs)) := by
 intro d
 induction d with
 | zero =>
  intro i cs out hi hc hv hcl ho hol
  obtain rfl : i = l.length := by omega
  rw [List.drop_length]
  refine Ev.step (fun k => by rw [mark_Choose.l0]) (Ev.neg (by omega) ?_)
  unfold chL
  rw [List.append_nil]
  exact choose_end out ho
 | succ d ih =>
  intro i cs out hi hc hv hcl ho hol
  have h : i < l.length := by omega
  have hx := ht _ (List.getElem_mem h)
  obtain ⟨b1, b2, b3⟩ := hb _ (List.getElem_mem h)
  rw [drop_at l i h] at hc ⊢
  refine Ev.step (fun k => by rw [mark_Choose.l0]) (Ev.pos (by omega) (Ev.pos (by omega) (Ev.pos (by omega) ?_)))
  rw [rd_p _ _ h, w64 (by omega)]
  unfold chL
  by_cases hk : l[i].f0 = 5
  ·rw [clashN_five hk] at hc
   rw [if_pos hk]
   cases cs with
   | nil => simp at hc
   | cons c cs =>
    rw [List.length_cons] at hc hcl
    have hcv := hv c List.mem_cons_self
    have hvt : ∀ c ∈ cs, badc c = false := fun y hy => hv y (List.mem_cons_of_mem _ hy)
    unfold badc at hcv
    rw [Bool.or_eq_false_iff, decide_eq_false_iff_not, decide_eq_false_iff_not] at hcv
    have hc4 : c = 1 ∨ c = 2 ∨ c = 3 ∨ c = 4 := by omega
    have hl1 : 0 < (((c :: cs).length : Nat) : Int) := by rw [List.length_cons]; omega
    have hl2 : 1 ≤ (((c :: cs).length : Nat) : Int) := by rw [List.length_cons]; omega
    have next := fun (y : List ByteArray) (hy : tiny y) (hyl : y.length ≤ 120) => ih (i + 1) cs (out ++ y) (by omega) (by omega) hvt (by omega) (tiny_append ho hy) (by rw [List.length_append]; omega)
    refine Ev.pos hk (Ev.pos hl1 ?_)
    have er : rd (c :: cs) 0 = c := rfl
    rw [er]
    simp only [List.drop_one, List.tail_cons, List.headD_cons]
    rw [← List.append_assoc]
    rcases hc4 with rfl | rfl | rfl | rfl
    ·rw [pick1]
     refine Ev.pos rfl (Ev.pos (by omega) (Ev.pos hl2 ?_))
     exact next l[i].f2 (pick1 l[i] ▸ pick_tiny 1 hx) (by show l[i].f2.length ≤ 120; omega)
    ·rw [pick2]
     refine Ev.neg (by decide) (Ev.pos rfl (Ev.pos (by omega) (Ev.pos hl2 ?_)))
     exact next l[i].f3 (pick2 l[i] ▸ pick_tiny 2 hx) (by show l[i].f3.length ≤ 120; omega)
    ·rw [pick3]
     refine Ev.neg (by decide) (Ev.neg (by decide) (Ev.pos rfl (Ev.pos (by omega) (Ev.pos hl2 ?_))))
     exact next l[i].f1 (pick3 l[i] ▸ pick_tiny 3 hx) (by show l[i].f1.length ≤ 120; omega)
    ·rw [pick4]
     refine Ev.neg (by decide) (Ev.neg (by decide) (Ev.neg (by decide) (Ev.pos rfl (Ev.pos (by omega) (Ev.bs (Ev.pos (by rw [List.length_append]; omega) (Ev.pos hl2 ?_)))))))
     rw [List.append_assoc]
     exact next (l[i].f2 ++ l[i].f3) (pick4 l[i] ▸ pick_tiny 4 hx) (by show (l[i].f2 ++ l[i].f3).length ≤ 120; rw [List.length_append]; omega)
  ·rw [clashN_other hk] at hc
   rw [if_neg hk, ← List.append_assoc]
   refine Ev.neg hk ?_
   have hrl : (resL l[i]).length ≤ 60 := by unfold resL; split <;> omega
   have next := ih (i + 1) cs (out ++ resL l[i]) (by omega) hc hv hcl (tiny_append ho (res_tiny hx)) (by rw [List.length_append]; omega)
   refine Ev.bc (a := resL l[i]) ?_ (Ev.pos (by omega) next)
   unfold mark_result.f resL
   by_cases h3 : l[i].f0 = 3
   ·rw [if_pos h3, if_pos h3]
   ·rw [if_neg h3, if_neg h3]
def chooseV (l : List S43) (cs : List Int) : List ByteArray × Int := if checkP l = 0 then (if cs.length = clashN l ∧ cs.any badc = false then joinRes (chL l cs) else ([], 2)) else ([], checkP l)
theorem check_sizes19 {l : List S43} (h : checkP l = 0) : l.length ≤ 130 ∧ ∀ x ∈ l, x.f1.length ≤ 60 ∧ x.f2.length ≤ 60 ∧ x.f3.length ≤ 60 := ⟨(checkP_zero h).1, fun x hx => (mbad_fine ((checkP_zero h).2 x hx)).2⟩
theorem choose_ev (l : List S43) (cs : List Int) (ht : ∀ x ∈ l, tinyP x) (hcs : cs.length ≤ 1000) : Ev (fun k => mark_Choose.f k l cs) (chooseV l cs) := by
 unfold mark_Choose.f chooseV
 refine Ev.bd (clashV_ev l) ?_
 by_cases h : checkP l = 0
 ·rw [if_pos h]
  refine Ev.eq (if_pos h).symm (Ev.pos rfl ?_)
  by_cases hc : cs.length = clashN l
  ·refine Ev.pos (by show (cs.length : Int) = (clashN l : Int); omega) (Ev.bc (a := cs.any badc) rfl (Ev.step (fun k => by rw [mark_Choose.j0]) ?_))
   cases hb : cs.any badc with
   | true =>
    refine Ev.eq (if_neg (fun hn => by cases hn.2)).symm ?_
    exact Ev.pos rfl (Ev.now _)
   | false =>
    refine Ev.eq (if_pos ⟨hc, rfl⟩).symm (Ev.neg (by decide) ?_)
    obtain ⟨h1, h2⟩ := check_sizes19 h
    have := pchoose_loop l h1 ht h2 l.length 0 cs [] (by omega) (by simpa using hc) (fun c hc2 => by simpa using List.any_eq_false.1 hb c hc2) hcs (fun s hs => by cases hs) (by simp)
    simpa using this
  ·refine Ev.eq (if_neg (fun hn => hc hn.1)).symm ?_
   refine Ev.neg (by show ¬ (cs.length : Int) = (clashN l : Int); omega) (Ev.step (fun k => by rw [mark_Choose.j0]) ?_)
   exact Ev.pos rfl (Ev.now _)
 ·rw [if_neg h]
  exact Ev.eq (if_neg h).symm (Ev.neg h (Ev.now _))
end Go.Proofs.YtpklfaglenkdaaaDoor.Pr
end
section
namespace Go.Proofs.YtpklfaglenkdaaaDoor.Pr
open Go.RowKit Go.Proofs.YtpklfaglenkdaaaDoorW.PrintWords Go.Proofs.YtpklfaglenkdaaaDoorW.PrintLast Go.Proofs.YtpklfaglenkdaaaDoorW.PrintMore
theorem rch_check (l : List S43) (cs : List Int) (hcs : cs.length ≤ 1000) (r : List ByteArray × Int) (he : cs.any badc = false → Ev (fun k => sidingref19_Choose.l1 k l cs ([] : List ByteArray) 0 0) r) : ∀ (d i : Nat), i + d = cs.length → (∀ j (hj : j < cs.length), j < i → badc cs[j] = false) → Ev (fun k => sidingref19_Choose.l0 k l cs (cs.length : Int) (i : Int)) (if cs.any badc = false then r else ([], 2)) := by
 intro d
 induction d with
 | zero =>
  intro i hi hv
  have hb : cs.any badc = false := by
   rw [List.any_eq_false]
   intro c hc
   obtain ⟨j, hj, rfl⟩ := List.getElem_of_mem hc
   simp [hv j hj (by omega)]
  refine Ev.eq (if_pos hb).symm (Ev.step (fun k => by rw [sidingref19_Choose.l0]) (Ev.neg (by omega) (he hb)))
 | succ d ih =>
  intro i hi hv
  have h : i < cs.length := by omega
  refine Ev.step (fun k => by rw [sidingref19_Choose.l0]) (Ev.pos (by omega) (Ev.pos (by omega) (Ev.pos (by omega) ?_)))
  rw [rd_at _ _ h]
  have bad : badc cs[i] = true → ¬ cs.any badc = false := fun hb hn => by
   rw [List.any_eq_false] at hn
   exact hn _ (List.getElem_mem h) hb
  by_cases c1 : cs[i] < 1
  ·exact Ev.eq (if_neg (bad (by unfold badc; rw [decide_eq_true c1]; rfl))).symm (Ev.pos c1 (Ev.now _))
  ·refine Ev.neg c1 ?_
   by_cases c2 : cs[i] > 4
   ·exact Ev.eq (if_neg (bad (by unfold badc; rw [decide_eq_false c1, decide_eq_true (show 4 < cs[i] from c2)]; rfl))).symm (Ev.pos c2 (Ev.now _))
   ·refine Ev.neg c2 ?_
    rw [w64 (by omega)]
    refine ih (i + 1) (by omega) (fun j hj hji => ?_)
    by_cases e : j = i
    ·subst e
     unfold badc
     rw [decide_eq_false c1, decide_eq_false (show ¬ 4 < cs[j] from c2)]
     rfl
    ·exact hv j hj (by omega)
theorem rj4_ev (l : List S43) (cs : List Int) (out : List ByteArray) (J I : Int) (x : S43) (c : Int) (i0 : 0 ≤ I) (i1 : I < (l.length : Int)) (j0 : 0 ≤ J) (j1 : J < (cs.length : Int)) (hx : rd_T43 l I = x) (hc : rd cs J = c) (b : Bool) (m : out.length + x.f3.length + x.f1.length < 8796093022208) (r : List ByteArray × Int)
  (next : Ev (fun k => sidingref19_Choose.l1 k l cs (out ++ (if b = true then x.f3 else []) ++ (if c = 3 then x.f1 else [])) (wrap64 (J + 1)) (wrap64 (I + 1))) r) : Ev (fun k => sidingref19_Choose.j4 k l cs out J I b) r := by
 refine Ev.step (fun k => by rw [sidingref19_Choose.j4]) ?_
 cases b with
 | true =>
  rw [if_pos rfl] at next
  refine Ev.pos rfl (Ev.pos i0 (Ev.pos i1 ?_))
  rw [hx]
  refine Ev.pos (by omega) (Ev.bs (Ev.pos j0 (Ev.pos j1 ?_)))
  rw [hc]
  by_cases h : c = 3
  ·rw [if_pos h] at next
   exact Ev.pos h (Ev.pos (by rw [List.length_append]; omega) next)
  ·rw [if_neg h, List.append_nil] at next
   exact Ev.neg h next
 | false =>
  rw [if_neg (by decide), List.append_nil] at next
  refine Ev.neg (by decide) (Ev.pos j0 (Ev.pos j1 ?_))
  rw [hc]
  by_cases h : c = 3
  ·rw [if_pos h] at next
   refine Ev.pos h (Ev.pos i0 (Ev.pos i1 ?_))
   rw [hx]
   exact Ev.pos (by omega) next
  ·rw [if_neg h, List.append_nil] at next
   exact Ev.neg h next
theorem rj3_ev (l : List S43) (cs : List Int) (out : List ByteArray) (J I : Int) (x : S43) (c : Int) (i0 : 0 ≤ I) (i1 : I < (l.length : Int)) (j0 : 0 ≤ J) (j1 : J < (cs.length : Int)) (hx : rd_T43 l I = x) (hc : rd cs J = c) (m : out.length + x.f3.length + x.f1.length < 8796093022208) (r : List ByteArray × Int)
  (next : Ev (fun k => sidingref19_Choose.l1 k l cs (out ++ (if c = 2 ∨ c = 4 then x.f3 else []) ++ (if c = 3 then x.f1 else [])) (wrap64 (J + 1)) (wrap64 (I + 1))) r) : Ev (fun k => sidingref19_Choose.j3 k l cs out J I) r := by
 refine Ev.step (fun k => by rw [sidingref19_Choose.j3]) (Ev.pos j0 (Ev.pos j1 ?_))
 rw [hc]
 by_cases h : c = 2
 ·rw [if_pos (Or.inl h)] at next
  exact Ev.pos h (rj4_ev l cs out J I x c i0 i1 j0 j1 hx hc true m r next)
 ·refine Ev.neg h (rj4_ev l cs out J I x c i0 i1 j0 j1 hx hc (c == 4) m r ?_)
  by_cases h4 : c = 4
  ·rw [if_pos (Or.inr h4)] at next
   rw [if_pos (beq_iff_eq.2 h4)]
   exact next
  ·rw [if_neg (fun o => o.elim h h4)] at next
   rw [if_neg (fun o => h4 (beq_iff_eq.1 o))]
   exact next
theorem rj2_ev (l : List S43) (cs : List Int) (out : List ByteArray) (J I : Int) (x : S43) (c : Int) (i0 : 0 ≤ I) (i1 : I < (l.length : Int)) (j0 : 0 ≤ J) (j1 : J < (cs.length : Int)) (hx : rd_T43 l I = x) (hc : rd cs J = c) (b : Bool) (m : out.length + x.f2.length + x.f3.length + x.f1.length < 8796093022208) (r : List ByteArray × Int)
  (next : Ev (fun k => sidingref19_Choose.l1 k l cs (out ++ (if b = true then x.f2 else []) ++ (if c = 2 ∨ c = 4 then x.f3 else []) ++ (if c = 3 then x.f1 else [])) (wrap64 (J + 1)) (wrap64 (I + 1))) r) : Ev (fun k => sidingref19_Choose.j2 k l cs out J I b) r := by
 refine Ev.step (fun k => by rw [sidingref19_Choose.j2]) ?_
 cases b with
 | true =>
  rw [if_pos rfl] at next
  refine Ev.pos rfl (Ev.pos i0 (Ev.pos i1 ?_))
  rw [hx]
  exact Ev.pos (by omega) (rj3_ev l cs _ J I x c i0 i1 j0 j1 hx hc (by rw [List.length_append]; omega) r next)
 | false =>
  rw [if_neg (by decide), List.append_nil] at next
  exact Ev.neg (by decide) (rj3_ev l cs out J I x c i0 i1 j0 j1 hx hc (by omega) r next)
theorem rclash_step (l : List S43) (cs : List Int) (out : List ByteArray) (J I : Int) (x : S43) (c : Int) (i0 : 0 ≤ I) (i1 : I < (l.length : Int)) (j0 : 0 ≤ J) (j1 : J < (cs.length : Int)) (hx : rd_T43 l I = x) (hc : rd cs J = c) (hb : badc c = false) (m : out.length + x.f2.length + x.f3.length + x.f1.length < 8796093022208) (r : List ByteArray × Int)
  (next : Ev (fun k => sidingref19_Choose.l1 k l cs (out ++ pickV c x) (wrap64 (J + 1)) (wrap64 (I + 1))) r) : Ev (fun k => if rd cs J = 1 then sidingref19_Choose.j2 k l cs out J I true else sidingref19_Choose.j2 k l cs out J I (rd cs J == 4)) r := by
 have hc4 : c = 1 ∨ c = 2 ∨ c = 3 ∨ c = 4 := by
  unfold badc at hb
  rw [Bool.or_eq_false_iff, decide_eq_false_iff_not, decide_eq_false_iff_not] at hb
  omega
 rw [hc]
 rcases hc4 with e | e | e | e
 ·subst e
  rw [pick1] at next
  exact Ev.pos rfl (rj2_ev l cs out J I x _ i0 i1 j0 j1 hx hc true m r (by rw [if_pos rfl, if_neg (by decide), if_neg (by decide), List.append_nil, List.append_nil]; exact next))
 ·subst e
  rw [pick2] at next
  exact Ev.neg (by decide) (rj2_ev l cs out J I x _ i0 i1 j0 j1 hx hc _ m r (by rw [if_neg (by decide), if_pos (by decide), if_neg (by decide), List.append_nil, List.append_nil]; exact next))
 ·subst e
  rw [pick3] at next
  exact Ev.neg (by decide) (rj2_ev l cs out J I x _ i0 i1 j0 j1 hx hc _ m r (by rw [if_neg (by decide), if_neg (by decide), if_pos rfl, List.append_nil, List.append_nil]; exact next))
 ·subst e
  rw [pick4, ← List.append_assoc] at next
  exact Ev.neg (by decide) (rj2_ev l cs out J I x _ i0 i1 j0 j1 hx hc _ m r (by rw [if_pos (by decide), if_pos (by decide), if_neg (by decide), List.append_nil]; exact next))
theorem w_next {i : Nat} (h : i ≤ 1000) : wrap64 ((i : Int) + 1) = ((i + 1 : Nat) : Int) := by rw [w64 (by omega)]; omega
theorem pick_len (c : Int) {x : S43} (h1 : x.f1.length ≤ 60) (h2 : x.f2.length ≤ 60) (h3 : x.f3.length ≤ 60) : (pickV c x).length ≤ 120 := by
 unfold pickV
 split
 ·omega
 ·split
  ·omega
  ·split
   ·omega
   ·split
    ·rw [List.length_append]; omega
    ·exact Nat.zero_le _
theorem rchoose_loop (l : List S43) (cs : List Int) (hl : l.length ≤ 130) (hcs : cs.length ≤ 1000) (ht : ∀ x ∈ l, tinyP x) (hb : ∀ x ∈ l, x.f1.length ≤ 60 ∧ x.f2.length ≤ 60 ∧ x.f3.length ≤ 60) (hv : ∀ c ∈ cs, badc c = false) : ∀ (d i j : Nat) (out : List ByteArray), i + d = l.length → j + clashN (l.drop i) = cs.length → tiny out → out.length ≤ 200 * i →
  Ev (fun k => sidingref19_Choose.l1 k l cs out (j : Int) (i : Int)) (joinRes (out ++ chL (l.drop i) (cs.drop j))) := by
 intro d
 induction d with
 | zero =>
  intro i j out hi hc ho hol
  obtain rfl : i = l.length := by omega
  rw [List.drop_length]
  refine Ev.step (fun k => by rw [sidingref19_Choose.l1]) (Ev.neg (by omega) ?_)
  unfold chL joinRes
  rw [List.append_nil]
  refine Ev.bd (rlines_ev out ho) ?_
  by_cases h : linesErr out = 0
  ·exact Ev.eq (if_pos h).symm (Ev.pos h (Ev.now _))
  ·exact Ev.eq (if_neg h).symm (Ev.neg h (Ev.bd (rlines_ev out ho) (Ev.now _)))
 | succ d ih =>
  intro i j out hi hc ho hol
  have h : i < l.length := by omega
  have hx := ht _ (List.getElem_mem h)
  obtain ⟨b1, b2, b3⟩ := hb _ (List.getElem_mem h)
  rw [drop_at l i h] at hc ⊢
  refine Ev.step (fun k => by rw [sidingref19_Choose.l1]) (Ev.pos (by omega) (Ev.pos (by omega) ?_))
  rw [rd_p _ _ h]
  unfold chL
  by_cases hk : l[i].f0 = 5
  ·rw [clashN_five hk] at hc
   rw [if_pos hk]
   have hj : j < cs.length := by omega
   have next := ih (i + 1) (j + 1) (out ++ pickV cs[j] l[i]) (by omega) (by omega) (tiny_append ho (pick_tiny _ hx)) (by rw [List.length_append]; have := pick_len cs[j] b1 b2 b3; omega)
   have m : out.length + l[i].f2.length + l[i].f3.length + l[i].f1.length < 8796093022208 := by omega
   clear ih hc ho hol b1 b2 b3
   rw [drop_at cs j hj]
   show Ev _ (joinRes (out ++ (pickV cs[j] l[i] ++ chL (l.drop (i + 1)) (cs.drop (j + 1)))))
   rw [← List.append_assoc]
   refine Ev.pos hk (Ev.pos (Int.natCast_nonneg _) (Ev.pos (Int.ofNat_lt.2 hj) ?_))
   refine rclash_step l cs out j i l[i] cs[j] (Int.natCast_nonneg _) (Int.ofNat_lt.2 h) (Int.natCast_nonneg _) (Int.ofNat_lt.2 hj) (rd_p _ _ h) (rd_at _ _ hj) (hv _ (List.getElem_mem hj)) m _ ?_
   rw [w_next (by omega), w_next (by omega)]
   exact next
  ·rw [clashN_other hk] at hc
   rw [if_neg hk, ← List.append_assoc]
   refine Ev.neg hk ?_
   have hrl : (resL l[i]).length ≤ 60 := by unfold resL; split <;> omega
   have next := ih (i + 1) j (out ++ resL l[i]) (by omega) hc (tiny_append ho (res_tiny hx)) (by rw [List.length_append]; omega)
   rw [w_next (by omega)]
   refine Ev.bc (a := resL l[i]) ?_ (Ev.pos (by omega) next)
   unfold sidingref19_Lines.f resL
   by_cases h3 : l[i].f0 = 3
   ·rw [if_pos h3, if_pos h3]
   ·rw [if_neg h3, if_neg h3]
theorem rchoose_ev (l : List S43) (cs : List Int) (ht : ∀ x ∈ l, tinyP x) (hcs : cs.length ≤ 1000) : Ev (fun k => sidingref19_Choose.f k l cs) (chooseV l cs) := by
 unfold sidingref19_Choose.f chooseV
 refine Ev.bd (rclashV_ev l ht) ?_
 by_cases h : checkP l = 0
 ·rw [if_pos h]
  refine Ev.eq (if_pos h).symm (Ev.pos rfl ?_)
  by_cases hc : cs.length = clashN l
  ·refine Ev.pos (by show (cs.length : Int) = (clashN l : Int); omega) ?_
   obtain ⟨h1, h2⟩ := check_sizes19 h
   have := rch_check l cs hcs (joinRes (chL l cs)) (fun hb => by
    have := rchoose_loop l cs h1 hcs ht h2 (fun c hc2 => by simpa using List.any_eq_false.1 hb c hc2) l.length 0 0 [] (by omega) (by rw [List.drop_zero]; omega) (fun s hs => by cases hs) (by simp)
    simpa using this) cs.length 0 (by omega) (fun j hj hj2 => absurd hj2 (Nat.not_lt_zero _))
   refine Ev.eq ?_ (show Ev (fun k => sidingref19_Choose.l0 k l cs ((clashN l : Nat) : Int) 0) _ by rw [← hc]; exact this)
   by_cases hb : cs.any badc = false
   ·rw [if_pos hb, if_pos ⟨hc, hb⟩]
   ·rw [if_neg hb, if_neg (fun hn => hb hn.2)]
  ·refine Ev.eq (if_neg (fun hn => hc hn.1)).symm ?_
   exact Ev.neg (by show ¬ (cs.length : Int) = (clashN l : Int); omega) (Ev.now _)
 ·rw [if_neg h]
  exact Ev.eq (if_neg h).symm (Ev.neg h (Ev.now _))
end Go.Proofs.YtpklfaglenkdaaaDoor.Pr
end
section
namespace Go.Proofs.YtpklfaglenkdaaaDoor.Pure
open Go Go.RowKit Go.Proofs.YtpklfaglenkdaaaDoor.Pr Go.Proofs.YtpklfaglenkdaaaDoorW.PrintWords Go.Proofs.YtpklfaglenkdaaaDoorW.PrintLast Go.Proofs.YtpklfaglenkdaaaDoorW.PrintMore
theorem wAll_len : ∀ (l : List S43) (o : List ByteArray), l.all pfine = true → (wAll l o).length ≤ o.length + 5000 * l.length
 | [], o, _ => by simp [wAll]
 | x :: t, o, h => by
  rw [List.all_cons, Bool.and_eq_true] at h
  have h1 := wPiece_len (o := o) h.1
  have h2 := wAll_len t (wPiece x o) h.2
  rw [List.length_cons]
  show (wAll t (wPiece x o)).length ≤ _
  omega
theorem writeP_len (l : List S43) : (writeP l).1.length ≤ 9000000000000000000 := by
 unfold writeP
 split
 ·rename_i h
  obtain ⟨_, h1, h2⟩ := check_fine h
  have := wAll_len l [] h2
  split
  ·exact Nat.zero_le _
  ·show (wAll l []).length ≤ _
   simp only [List.length_nil] at this
   omega
 ·exact Nat.zero_le _
theorem readV_len {l : List ByteArray} (ht : tiny l) : (readV l).1.length ≤ 9000000000000000000 ∧ shortP (readV l).1 := by
 have nl : ([] : List S43).length ≤ 9000000000000000000 ∧ shortP ([] : List S43) := ⟨Nat.zero_le _, fun x hx => by cases hx⟩
 unfold readV
 split
 ·exact nl
 ·cases hm : mr l 0 [] [] [] [] with
  | none => exact nl
  | some out =>
   dsimp only
   split
   ·rename_i hc
    obtain ⟨h1, h2⟩ := check_sizes19 hc
    refine ⟨by show out.length ≤ _; omega, fun x hx => ?_⟩
    obtain ⟨b1, b2, b3⟩ := h2 x hx
    exact ⟨by omega, by omega, by omega⟩
   ·exact nl
theorem chooseV_len (l : List S43) (cs : List Int) : (chooseV l cs).1.length ≤ 9000000000000000000 := by
 unfold chooseV joinRes
 split
 ·split
  ·split
   ·rename_i h
    have := (linesErr_zero h).1
    show (chL l cs).length ≤ _
    omega
   ·exact Nat.zero_le _
  ·exact Nat.zero_le _
 ·exact Nat.zero_le _
theorem MarkDoes : sidinglaw19_MarkDoes.Pure := by
 intro p l cs wp wl wc
 have triv : Ev (fun k => sidinglaw19_MarkDoes.j0 k p l cs true) true := by
  refine Ev.step (fun k => by rw [sidinglaw19_MarkDoes.j0]) ?_
  exact Ev.pos rfl (Ev.now _)
 have main : Ev (fun k => sidinglaw19_MarkDoes.f k p l cs) true := by
  unfold sidinglaw19_MarkDoes.f
  refine Ev.bd (plong_ev p (by omega) (fun h hh => by
   obtain ⟨_, ⟨h1, _⟩, ⟨h2, _⟩, ⟨h3, _⟩⟩ := wp.2 h hh
   omega)) ?_
  cases c1 : plong p with
  | true => exact Ev.pos rfl triv
  | false =>
   refine Ev.neg (by decide) (Ev.bd (long19_ev l (by omega)) ?_)
   cases c2 : long19 l with
   | true => exact Ev.pos rfl triv
   | false =>
    refine Ev.neg (by decide) ?_
    by_cases c3 : (cs.length : Int) > 300
    ·rw [decide_eq_true c3]
     exact triv
    ·rw [decide_eq_false c3]
     obtain ⟨pl, pt⟩ := plong_tiny c1
     obtain ⟨ll, lt⟩ := long19_false c2
     have ht : ∀ x ∈ p, tinyP x := fun x hx => (pt x hx).1
     have tl : tiny l := fun s hs => by have := lt s hs; omega
     obtain ⟨r1, r2⟩ := readV_len tl
     refine Ev.step (fun k => by rw [sidinglaw19_MarkDoes.j0]) ?_
     refine Ev.neg (by decide) (Ev.bs (Ev.pos (by simp; omega) (Ev.bs ?_)))
     rw [List.nil_append]
     refine Ev.bd (write_ev p) (Ev.bd (rwrite_ev p ht) (Ev.bd (read_ev l) (Ev.bd (rread_ev l tl) (Ev.bd (choose_ev p cs ht (by omega)) (Ev.bd (rchoose_ev p cs ht (by omega)) ?_)))))
     refine Ev.bd (same_ev _ _ (writeP_len p)) (Ev.pos (by simp) (Ev.pos rfl (Ev.bd (psame_ev _ _ r1 r2) (Ev.pos (by simp) (Ev.pos rfl (Ev.bd (same_ev _ _ (chooseV_len p cs)) (Ev.pos (by simp) (Ev.pos rfl (Ev.bd (same_ev l l (by omega)) (Ev.rt (by simp)))))))))))
 obtain ⟨k, hk⟩ := main.rounds
 exact ⟨k, hk⟩
end Go.Proofs.YtpklfaglenkdaaaDoor.Pure
end
section
namespace Go.Proofs.YtpklfaglenkdaaaDoorW.PrintWords
open Go Go.ChangeShapes Go.WideShapes Go.Deep
structure Rdb {α : Type} (P : Program) (t : TypeId) (d : Kd α) (wf : α → Prop) : Prop where
 cells : P.cellsOf t = d.sz
 rd : ∀ {H : Type} {enc : TypeId × Value → H} {w : World} {base : Nat} {spare : Nat → Bool} {held : Bool} {fuel : Nat} {cs : List Value} {x : DataW H × List MemPlace},
  DataW.trod enc P w base spare held fuel t cs = some x → (∀ n ∈ x.1.weights P t, n ≤ 140737488351232) → ∃ v, d.K w v cs ∧ wf v
theorem Rdb.int {P : Program} {t : TypeId} {k : IntKind} (ht : P.underlying t = some (.int k)) (hc : P.cellsOf t = 1) : Rdb P t (Kd.int k) (fun x => (Lit.int k x).wf = true) :=
 ⟨hc, fun h _ => by
  obtain ⟨n, rfl, _, hw⟩ := DataW.trod_int ht h
  exact ⟨n, rfl, hw⟩⟩
theorem Rdb.bool {P : Program} {t : TypeId} (ht : P.underlying t = some .bool) (hc : P.cellsOf t = 1) : Rdb P t Kd.bool (fun _ => True) :=
 ⟨hc, fun h _ => by
  obtain ⟨b, rfl, _⟩ := DataW.trod_bool ht h
  exact ⟨b, rfl, trivial⟩⟩
theorem Rdb.string {P : Program} {t : TypeId} (ht : P.underlying t = some .string) (hc : P.cellsOf t = 1) : Rdb P t Kd.string (fun s => s.size ≤ 140737488351232) :=
 ⟨hc, fun h hz => by
  obtain ⟨s, rfl, rfl, _⟩ := DataW.trod_string ht h
  refine ⟨s, rfl, ?_⟩
  have := hz s.data.toList.length (by simp [DataW.weights])
  rwa [data_length] at this⟩
theorem weightsAll_mem {H : Type} {P : Program} {e : TypeId} {d : DataW H} : ∀ {l : List (DataW H)}, d ∈ l → ∀ n ∈ d.weights P e, n ∈ DataW.weightsAll P e l
 | a :: l, hd, n, hn => by
  rcases List.mem_cons.1 hd with rfl | hd
  ·simp only [DataW.weightsAll, List.mem_append]
   exact .inl hn
  ·simp only [DataW.weightsAll, List.mem_append]
   exact .inr (weightsAll_mem hd n hn)
theorem cells_at {w : World} {base : Nat} {a : Addr} {n : Nat} {cs : List Value} (h : w.cells? base a n = some cs) : cs.length = n ∧ ∀ i u, cs[i]? = some u → w.cell? (a.add i) = some u := by
 unfold World.cells? at h
 split at h
 ·have hl := mapM_some_length h
  rw [List.length_range] at hl
  refine ⟨hl, fun i u hu => ?_⟩
  have hi : i < n := by
   have := (List.getElem?_eq_some_iff.1 hu).1
   omega
  have := mapM_some_get h i i (by simp [hi])
  rw [this, hu]
 ·cases h
theorem Rdb.slice {α : Type} [Inhabited α] {P : Program} {t e : TypeId} {d : Kd α} {wf : α → Prop} {B : Nat} (ht : P.underlying t = some (.slice e)) (hc : P.cellsOf t = 1) (hB : P.bytesOf e = B) (h : Rdb P e d wf) :
  Rdb P t (Kd.slice e d) (fun xs => xs.length * B ≤ 140737488351232 ∧ ∀ x ∈ xs, wf x) :=
 ⟨hc, fun {H enc w base spare held fuel cs x} hx hz => by
  rcases open_slice ht hx with ⟨rfl, _⟩ | ⟨a, len, cap, m, n, D, Pl, rfl, hb, hl, hm, hmm, rfl, hel⟩
  ·exact ⟨[], ⟨none, 0, rfl, Nat.le_refl _, rfl, by simp, fun hp => absurd hp (by simp)⟩, by simp, by simp⟩
  ·have hlm : len ≤ m := by
    rw [hmm]
    split
    ·exact hl
    ·exact Nat.le_refl _
   have hw : ∀ i, i < len → ∀ n ∈ (D i).weights P e, n ≤ 140737488351232 := by
    intro i hi n hn
    apply hz n
    simp only [DataW.weights, ht, List.mem_cons, List.mem_append]
    exact .inr (.inl (weightsAll_mem (List.mem_map.2 ⟨i, List.mem_range.2 hi, rfl⟩) n hn))
   have hlen : len * B ≤ 140737488351232 := by
    have := hz ((((List.range len).map D).length + ((List.range (m - len)).map fun j => D (len + j)).length) * P.bytesOf e) (by simp [DataW.weights, ht])
    rw [hB] at this
    simp only [List.length_map, List.length_range] at this
    exact Nat.le_trans (Nat.mul_le_mul_right _ (by omega)) this
   obtain ⟨V, hV⟩ := choose_lt (α := α) (n := len) (p := fun i v => ∃ c, c.length = d.sz ∧ d.K w v c ∧ (∀ j u, c[j]? = some u → w.cell? (a.add (i * d.sz + j)) = some u) ∧ wf v) (by
    intro i hi
    obtain ⟨cs', h1, h2⟩ := hel i (by omega)
    obtain ⟨v, hK, hwf⟩ := h.rd h2 (hw i hi)
    obtain ⟨_, hcell⟩ := cells_at h1
    refine ⟨v, cs', d.K_len hK, hK, fun j u hu => ?_, hwf⟩
    have := hcell j u hu
    rwa [h.cells, add_add] at this)
   refine ⟨(List.range len).map V, ⟨some a, cap, by simp, by simpa using hl, rfl, by simp; simp only [maxLen] at hm; omega, fun hp => ⟨a, rfl, fun j p hj => ?_⟩⟩, by simpa using hlen, ?_⟩
   ·have hjl : j < len := by
     have := (List.getElem?_eq_some_iff.1 hj).1
     simpa using this
    have : p = V j := by
     simp [hjl] at hj
     exact hj.symm
    subst this
    obtain ⟨c, h1, h2, h3, _⟩ := hV j hjl
    exact ⟨c, h1, h2, h3⟩
   ·intro p hp
    obtain ⟨i, hi, rfl⟩ := List.mem_map.1 hp
    obtain ⟨_, _, _, _, h4⟩ := hV i (List.mem_range.1 hi)
    exact h4⟩
def RdF {α : Type} (P : Program) (fs : List Field) (off : Nat) (d : Kd α) (wf : α → Prop) : Prop :=
 ∀ {H : Type} {enc : TypeId × Value → H} {w : World} {base : Nat} {spare : Nat → Bool} {held : Bool} {fuel : Nat} {cs : List Value} {xs : List (DataW H × List MemPlace)},
  (∀ (i : Nat) (f : Field), fs[i]? = some f → DataW.trod enc P w base spare held fuel f.type ((cs.drop f.offset).take (P.cellsOf f.type)) = xs[i]?) → xs.length = fs.length → cs.length = off + d.sz →
  (∀ n ∈ DataW.weightsEach P (fs.map (·.type)) (xs.map (·.1)), n ≤ 140737488351232) → ∃ v, d.K w v (cs.drop off) ∧ wf v
theorem RdF.last {α : Type} {P : Program} {f : Field} {off : Nat} {d : Kd α} {wf : α → Prop} (ho : f.offset = off) (h : Rdb P f.type d wf) : RdF P [f] off d wf := by
 intro H enc w base spare held fuel cs xs hf hl hc hz
 match xs, hl with
 | [x], _ =>
  have h1 := hf 0 f rfl
  rw [ho, h.cells, List.take_of_length_le (by rw [List.length_drop]; omega)] at h1
  exact h.rd h1 (fun n hn => hz n (by simp [DataW.weightsEach, hn]))
theorem RdF.cons {α β : Type} {P : Program} {f : Field} {fs : List Field} {off : Nat} {a : Kd α} {b : Kd β} {wa : α → Prop} {wb : β → Prop} (ho : f.offset = off) (h : Rdb P f.type a wa) (hr : RdF P fs (off + a.sz) b wb) : RdF P (f :: fs) off (Kd.pair a b) (fun x => wa x.1 ∧ wb x.2) := by
 intro H enc w base spare held fuel cs xs hf hl hc hz
 match xs, hl with
 | x :: xs, hl =>
  have hsz : (Kd.pair a b).sz = a.sz + b.sz := rfl
  have h1 := hf 0 f rfl
  rw [ho, h.cells] at h1
  obtain ⟨v, hv, hwv⟩ := h.rd h1 (fun n hn => hz n (by simp [DataW.weightsEach, hn]))
  obtain ⟨u, hu, hwu⟩ := hr (cs := cs) (xs := xs) (fun i g hg => by simpa using hf (i + 1) g (by simpa using hg)) (by simpa using hl) (by rw [hc, hsz]; omega) (fun n hn => hz n (by simp only [List.map_cons, DataW.weightsEach, List.mem_append]; exact .inr hn))
  refine ⟨(v, u), ⟨_, _, ?_, hv, hu⟩, hwv, hwu⟩
  rw [← List.drop_drop, List.take_append_drop]
theorem Rdb.struct {α β : Type} {P : Program} {t : TypeId} {fs : Array Field} {d : Kd α} {wf : α → Prop} (f : β → α) (g : α → β) (hfg : ∀ x, f (g x) = x) (ht : P.underlying t = some (.struct fs)) (hc : P.cellsOf t = d.sz) (h : RdF P fs.toList 0 d wf) :
  Rdb P t (Kd.iso d f) (fun x => wf (f x)) :=
 ⟨hc, fun hx hz => by
  obtain ⟨xs, n, _, rfl, hl, hlen, hf⟩ := DataW.trod_struct ht hx
  obtain ⟨v, hv, hw⟩ := h (xs := xs) (fun i f hi => hf i f (by simpa using hi)) (by simpa using hlen) (by rw [hl, hc, Nat.zero_add]) (fun n hn => hz n (by simpa [DataW.weights, ht] using hn))
  refine ⟨g v, ?_, ?_⟩
  ·show d.K _ (f (g v)) _
   rw [hfg]
   simpa using hv
  ·rw [hfg]
   exact hw⟩
theorem Rdb.top {α : Type} {H : Type} {enc : TypeId × Value → H} {P : Program} {W : World} {base : Nat} {spare : Nat → Bool} {held : Bool} {t e : TypeId} {d : Kd α} {wf : List α → Prop} {a : Option Addr} {len cap : Nat} {dd : DataW H} {ps : List MemPlace} {ts : List TypeId} {ds : List (DataW H)} {j : Nat}
  (R : Rdb P t (Kd.slice e d) wf) (hsz : (DataW.weightsEach P ts ds).all (· ≤ reachBytes) = true) (ht : ts[j]? = some t) (hd : ds[j]? = some dd)
  (h : DataW.Trod enc P W base spare held t (.slice a len cap) dd ps) : ∃ l : List α, len = l.length ∧ d.C W a l.length l ∧ l.length ≤ cap ∧ wf l := by
 obtain ⟨fuel, hf⟩ := h
 obtain ⟨l, ⟨A, c, he, hl, hC⟩, hw⟩ := R.rd hf (fun n hn => by
  have := List.all_eq_true.1 hsz _ (DataW.weights_mem_each ht hd n hn)
  exact of_decide_eq_true this)
 simp [Value.cells] at he
 obtain ⟨rfl, rfl, rfl⟩ := he
 exact ⟨l, rfl, hC, hl, hw⟩
end Go.Proofs.YtpklfaglenkdaaaDoorW.PrintWords
end
