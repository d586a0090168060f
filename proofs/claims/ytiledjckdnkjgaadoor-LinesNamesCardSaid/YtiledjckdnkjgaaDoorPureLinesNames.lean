/- LinesNames: limits and errors. Conditions: none beyond the statement's own. -/
import Derived.Test.YtiledjckdnkjgaaDoorSLaw13
import Derived.Test.YtiledjckdnkjgaaDoorF6
namespace Go.Proofs.YtiledjckdnkjgaaDoor.Pure
open Go.RowKit Go.Proofs.YtiledjckdnkjgaaDoorW.PrintWords Go.Proofs.YtiledjckdnkjgaaDoorW.PrintLast Go.Proofs.YtiledjckdnkjgaaDoorW.PrintMore Go.Proofs.YtiledjckdnkjgaaDoor.Pr
set_option linter.unusedVariables false
set_option linter.unusedSimpArgs false

def rep (b : Int) (n : Nat) : ByteArray := strOfNums (List.replicate n b)
theorem u8s_rep (b : Int) (n : Nat) (h : 0 ≤ b ∧ b < 256) : u8s (List.replicate n b) = true := u8s_of fun x hx => by
  rw [(List.mem_replicate.1 hx).2]
  exact h
theorem bytesOf_rep (b : Int) (n : Nat) (h : 0 ≤ b ∧ b < 256) : bytesOf (rep b n) = List.replicate n b := bytesOf_strOf _ (u8s_rep b n h)
theorem rep_size (b : Int) (n : Nat) : (rep b n).size = n := by
  unfold rep
  rw [strOf_size, List.length_replicate]
theorem repeated_l0 (b : Int) (n : Nat) (hn : n ≤ 100000) : ∀ (d i : Nat), i + d = n → Ev (fun k => sidinglaw13_repeated.l0 k b (n : Int) (List.replicate i b) (i : Int)) (rep b n) := by
  intro d
  induction d with
  | zero =>
    intro i hi
    refine Ev.step (fun k => by rw [sidinglaw13_repeated.l0]) (Ev.neg (by omega) (Ev.rt ?_))
    rw [show i = n by omega]
    rfl
  | succ d ih =>
    intro i hi
    refine Ev.step (fun k => by rw [sidinglaw13_repeated.l0]) ?_
    rw [w64 (x := (i : Int) + 1) (by omega)]
    refine Ev.pos (by omega) (Ev.pos (by rw [List.length_replicate]; omega) ?_)
    have := ih (i + 1) (by omega)
    rw [List.replicate_succ'] at this
    exact this
theorem repeated_ev (b : Int) (n : Nat) (hn : n ≤ 100000) : Ev (fun k => sidinglaw13_repeated.f k b (n : Int)) (rep b n) := by
  unfold sidinglaw13_repeated.f
  exact repeated_l0 b n hn n 0 (by omega)
theorem check_rep (b : Int) (n : Nat) (e : Int) (h : 0 ≤ b ∧ b < 256) (he : textErr (List.replicate n b) = e) : lines_Check.f (bytesOf (rep b n)) = some e := by
  rw [tcheck_val _ (u8s_bytesOf _), bytesOf_rep b n h, he]
theorem textErr_rep (b : Int) (n : Nat) : textErr (List.replicate n b) = if 2000 < n then 4 else if 60 ≤ (if b = 10 then n else 0) then 4 else 0 := by
  unfold textErr
  rw [List.length_replicate, List.count_replicate]
  simp only [beq_iff_eq]
theorem feedy_rep (b : Int) (n : Nat) (h : 0 ≤ b ∧ b < 256) (h10 : b ≠ 10) : feedy (rep b n) = false := by
  rw [feedy_count, bytesOf_rep b n h, List.count_replicate, if_neg (by simpa using h10)]
  rfl
theorem small_two (a b : ByteArray) (ha : a.size ≤ 100000) (hb : b.size ≤ 100000) : small [a, b] := by
  intro s hs
  rcases List.mem_cons.1 hs with rfl | hs
  · omega
  · rw [List.mem_singleton.1 hs]
    omega
theorem join_of (l : List ByteArray) (e : Int) (hs : smallB l = true) (h : linesErr l = e) (he : e ≠ 0) : lines_Join.f l = some (([] : List Int), e) := by
  rw [join_val l (small_of_B hs), h, if_neg he]
theorem common_of (a b : List ByteArray) (r : Int × Int × Int) (ha : smallB a = true) (hb : smallB b = true) (h : commonR a b = r) : Ev (fun k => lines_Common.f k a b) r := h ▸ common_ev a b (small_of_B ha) (small_of_B hb)
theorem replace_of (l : List ByteArray) (p q : Int) (m : List ByteArray) (r : List ByteArray × Int) (hl : smallB l = true) (hm : smallB m = true) (hml : m.length ≤ 1000000) (h : replaceR l p q m = r) : Ev (fun k => lines_Replace.f k l p q m) r := h ▸ replace_ev l p q m (small_of_B hl) (small_of_B hm) hml
theorem LinesNames : sidinglaw13_LinesNames.Pure := by
  apply Ev.rounds (g := fun k => sidinglaw13_LinesNames.f k)
  unfold sidinglaw13_LinesNames.f
  have sz : ∀ (b : Int) (n : Nat), n ≤ 100000 → (rep b n).size ≤ 9223372036854775807 := fun b n h => by rw [rep_size]; omega
  have k1 := check_rep 120 2001 4 (by decide) (by rw [textErr_rep]; rfl)
  have k2 := check_rep 120 2000 0 (by decide) (by rw [textErr_rep]; rfl)
  have k3 := check_rep 10 60 4 (by decide) (by rw [textErr_rep]; rfl)
  have k4 := split_val (bytesOf (rep 10 59)) (u8s_bytesOf _)
  rw [bytesOf_rep 10 59 (by decide), if_pos (by rw [textErr_rep]; rfl)] at k4
  have l4 : (((partsOf [] (List.replicate 59 10)).map strOfNums).length : Int) = 60 := by
    rw [List.length_map, partsOf_length, List.count_replicate]
    rfl
  have k5 := join_of [] 8 (by decide) (by decide) (by decide)
  have k6 := join_of [⟨#[97, 10]⟩] 8 (by decide) (by decide +kernel) (by decide)
  have k7 := join_of (List.replicate 61 ⟨#[]⟩) 4 (by decide) (by decide +kernel) (by decide)
  have s8 : small [rep 120 1000, rep 121 1000] := small_two _ _ (by rw [rep_size]; decide) (by rw [rep_size]; decide)
  have k8 := join_val [rep 120 1000, rep 121 1000] s8
  have e8 : linesErr [rep 120 1000, rep 121 1000] = 4 := by
    unfold linesErr bytesIn
    simp only [List.length_cons, List.length_nil, List.map_cons, List.map_nil, List.sum_cons, List.sum_nil, rep_size]
    rfl
  rw [e8, if_neg (by decide)] at k8
  have s9 : small [rep 120 1000, rep 121 999] := small_two _ _ (by rw [rep_size]; decide) (by rw [rep_size]; decide)
  have k9 := join_val [rep 120 1000, rep 121 999] s9
  have e9 : linesErr [rep 120 1000, rep 121 999] = 0 := by
    unfold linesErr bytesIn
    simp only [List.length_cons, List.length_nil, List.map_cons, List.map_nil, List.sum_cons, List.sum_nil, rep_size, List.any_cons, List.any_nil, feedy_rep 120 1000 (by decide) (by decide), feedy_rep 121 999 (by decide) (by decide)]
    rfl
  rw [e9, if_pos rfl] at k9
  have l9 : ((bytesOf (joined [rep 120 1000, rep 121 999])).length : Int) = 2000 := by
    rw [bytesOf_length, joined_size]
    simp only [bytesIn, List.length_cons, List.length_nil, List.map_cons, List.map_nil, List.sum_cons, List.sum_nil, rep_size]
    rfl
  have s10 : small [rep 10 2001] := by
    intro s hs
    rw [List.mem_singleton.1 hs, rep_size]
    decide
  have k10 := join_val [rep 10 2001] s10
  have e10 : linesErr [rep 10 2001] = 4 := by
    unfold linesErr bytesIn
    simp only [List.length_cons, List.length_nil, List.map_cons, List.map_nil, List.sum_cons, List.sum_nil, rep_size]
    rfl
  rw [e10, if_neg (by decide)] at k10
  have c1 := common_of [⟨#[97]⟩] [] (0, 0, 8) (by decide) (by decide) (by decide +kernel)
  have c2 := common_of (List.replicate 61 ⟨#[]⟩) [] (0, 0, 4) (by decide) (by decide) (by decide +kernel)
  have r1 := replace_of [⟨#[97]⟩] 0 2 [] ([], 2) (by decide) (by decide) (by decide) (by decide +kernel)
  have r2 := replace_of [⟨#[97]⟩] 1 0 [] ([], 2) (by decide) (by decide) (by decide) (by decide +kernel)
  have r3 := replace_of [⟨#[97]⟩] (-1) 0 [] ([], 2) (by decide) (by decide) (by decide) (by decide +kernel)
  have r4 := replace_of [⟨#[97]⟩] 0 0 [⟨#[10]⟩] ([], 8) (by decide) (by decide) (by decide) (by decide +kernel)
  have r5 := replace_of [⟨#[97]⟩] 0 1 [] ([], 8) (by decide) (by decide) (by decide) (by decide +kernel)
  have r6 := replace_of (List.replicate 60 ⟨#[]⟩) 0 0 [⟨#[97]⟩] ([], 4) (by decide) (by decide) (by decide) (by decide +kernel)
  have r7 := replace_of [⟨#[97]⟩] 1 1 [⟨#[]⟩] ([⟨#[97]⟩, ⟨#[]⟩], 0) (by decide) (by decide) (by decide) (by decide +kernel)
  have m7 := same_ev [⟨#[97]⟩, ⟨#[]⟩] [⟨#[97]⟩, ⟨#[]⟩] (by decide)
  refine Ev.bd (repeated_ev 120 2001 (by decide)) (Ev.pos (sz _ _ (by decide)) (Ev.bc k1 (Ev.bd (repeated_ev 120 2000 (by decide)) (Ev.pos (sz _ _ (by decide)) (Ev.bc k2 (Ev.bd (repeated_ev 10 60 (by decide)) (Ev.pos (sz _ _ (by decide)) (Ev.bc k3 (Ev.bd (repeated_ev 10 59 (by decide)) (Ev.pos (sz _ _ (by decide)) ?_))))))))))
  rw [bytesOf_rep 10 59 (by decide)]
  refine Ev.bc k4 (Ev.bc k5 (Ev.bc k6 (Ev.pos (by decide) (Ev.bc k7 (Ev.bd (repeated_ev 120 1000 (by decide)) (Ev.bd (repeated_ev 121 1000 (by decide)) (Ev.bc k8 (Ev.bd (repeated_ev 120 1000 (by decide)) (Ev.bd (repeated_ev 121 999 (by decide)) (Ev.bc k9 (Ev.bd (repeated_ev 10 2001 (by decide)) (Ev.bc k10 (Ev.bs ?_)))))))))))))
  refine Ev.bd c1 (Ev.bd c2 (Ev.bd r1 (Ev.bd r2 (Ev.bd r3 (Ev.bd r4 (Ev.bd r5 (Ev.pos (by decide) (Ev.bd r6 (Ev.bd r7 (Ev.bc (a := true) rfl ?_))))))))))
  refine Ev.pos rfl (Ev.pos rfl (Ev.pos rfl (Ev.pos rfl (Ev.pos rfl (Ev.pos l4 (Ev.pos rfl (Ev.pos rfl (Ev.pos rfl (Ev.pos rfl (Ev.pos rfl (Ev.pos l9 (Ev.pos rfl (Ev.pos rfl (Ev.pos rfl (Ev.pos rfl (Ev.pos rfl (Ev.pos rfl (Ev.pos rfl (Ev.pos rfl (Ev.pos rfl (Ev.pos rfl (Ev.bd m7 (Ev.rt (by simp))))))))))))))))))))))))
end Go.Proofs.YtiledjckdnkjgaaDoor.Pure
