/- LinesBack: joining what was split gives the text, splitting what was joined gives the lines. Conditions: none beyond the statement's own. -/
import Derived.Test.YtiledjckdnkjgaaDoorSText
import Derived.Test.YtiledjckdnkjgaaDoorF7
namespace Go.Proofs.YtiledjckdnkjgaaDoor.Pure
open Go.RowKit Go.Proofs.YtiledjckdnkjgaaDoorW.PrintWords Go.Proofs.YtiledjckdnkjgaaDoorW.PrintLast Go.Proofs.YtiledjckdnkjgaaDoorW.PrintMore Go.Proofs.YtiledjckdnkjgaaDoor.Pr
set_option linter.unusedVariables false
set_option linter.unusedSimpArgs false

theorem sameB_val2 (a : List Int) : sidingref13_SameBytes.f a a = some true := by
  unfold sidingref13_SameBytes.f
  simp
theorem back_j2 (l : List ByteArray) (hl : tiny l) (nl : l.length ≤ 200) : Ev (fun k => sidinglaw13_LinesBack.j2 k l true) true := by
  refine Ev.step (fun k => by rw [sidinglaw13_LinesBack.j2]) (Ev.bd (rlines_ev l hl) ?_)
  by_cases h : linesErr l = 0
  · refine Ev.pos h (Ev.bc (join_val l hl.small) ?_)
    rw [if_pos h, joined_text]
    have s := split_val (textOf l) (u8s_text l)
    obtain ⟨g1, g2, g3, g4⟩ := linesErr_zero h
    rw [if_pos (text_err_of_lines l h), parts_text l (by intro e; rw [e] at g3; simp at g3) g4] at s
    exact Ev.bc s (Ev.pos rfl (Ev.pos rfl (Ev.pos rfl (Ev.bd (same_ev l l (by omega)) (Ev.rt (by simp))))))
  · exact Ev.neg h (Ev.now _)
theorem back_l0 (b : List Int) (l : List ByteArray) (hl : tiny l) (nl : l.length ≤ 200) (ub : u8s b = true) (he : textErr b = 0) : ∀ (d i : Nat), i + d = b.length →
    Ev (fun k => sidinglaw13_LinesBack.l0 k b l true ((partsOf [] b).map strOfNums) (((b.take i).count 10 : Nat) : Int) (i : Int)) true := by
  obtain ⟨g1, g2⟩ := textErr_zero he
  have hlen : ((partsOf [] b).map strOfNums).length = b.count 10 + 1 := by rw [List.length_map, partsOf_length]
  have hle : ∀ i, (b.take i).count 10 ≤ 2000 := fun i => Nat.le_trans List.count_le_length (by rw [List.length_take]; omega)
  intro d
  induction d with
  | zero =>
    intro i hi
    have hsm : small ((partsOf [] b).map strOfNums) := by
      intro s hs
      obtain ⟨p, hp, rfl⟩ := List.mem_map.1 hs
      rw [strOf_size]
      have ht := congrArg List.length (fed_parts b [])
      have : p.length ≤ (((partsOf [] b).map fun p => 10 :: p).flatten).length := by
        have hm : (10 :: p) ∈ (partsOf [] b).map fun p => 10 :: p := List.mem_map.2 ⟨p, hp, rfl⟩
        have := (List.sublist_flatten_of_mem hm).length_le
        simp only [List.length_cons] at this
        omega
      simp only [List.length_cons, List.nil_append] at ht
      omega
    refine Ev.step (fun k => by rw [sidinglaw13_LinesBack.l0]) ?_
    refine Ev.neg (by omega) (Ev.bc (join_val _ hsm) ?_)
    rw [if_pos (parts_linesErr b ub he), joined_text, textOf_parts b ub, hlen, List.take_of_length_le (by omega), w64 (by omega)]
    exact Ev.pos rfl (Ev.bc (sameB_val2 b) (Ev.pos rfl (Ev.pos (by omega) (Ev.neg (by omega) (back_j2 l hl nl)))))
  | succ d ih =>
    intro i hi
    have hlt : i < b.length := by omega
    have hc := hle i
    refine Ev.step (fun k => by rw [sidinglaw13_LinesBack.l0]) ?_
    rw [rd_at b i hlt, w64 (x := (i : Int) + 1) (by omega), w64 (by omega)]
    have := ih (i + 1) (by omega)
    rw [take_succ_at b i hlt, List.count_append] at this
    refine Ev.pos (by omega) (Ev.pos (by omega) ?_)
    by_cases h : b[i] = 10
    · refine Ev.pos h ?_
      have e : List.count 10 [b[i]] = 1 := by rw [h]; rfl
      rw [e] at this
      exact this
    · refine Ev.neg h ?_
      have e : List.count 10 [b[i]] = 0 := by
        rw [List.count_eq_zero, List.mem_singleton]
        exact fun e => h e.symm
      rw [e] at this
      exact this
theorem LinesBack : sidinglaw13_LinesBack.Pure := by
  intro b l hb hl
  apply Ev.rounds (g := fun k => sidinglaw13_LinesBack.f k b l)
  unfold sidinglaw13_LinesBack.f
  have yes : Ev (fun k => sidinglaw13_LinesBack.j0 k b l true true) true := Ev.step (fun k => by rw [sidinglaw13_LinesBack.j0]) (Ev.pos rfl (Ev.now _))
  refine Ev.bc (a := true) rfl ?_
  by_cases h0 : 5000 < b.length
  · exact Ev.pos (by omega) yes
  · refine Ev.neg (by omega) (Ev.bd (long_ev l (by omega)) ?_)
    by_cases h1 : longOf l = true
    · exact Ev.pos h1 yes
    · refine Ev.neg h1 ?_
      obtain ⟨nl, tl⟩ := longOf_tiny (Bool.eq_false_iff.2 h1)
      have ub : u8s b = true := u8s_wf hb.2
      refine Ev.step (fun k => by rw [sidinglaw13_LinesBack.j0]) (Ev.neg (by decide) (Ev.bc (split_val b ub) ?_))
      by_cases he : textErr b = 0
      · rw [if_pos he]
        refine Ev.pos rfl ?_
        have := back_l0 b l tl nl ub he b.length 0 (by omega)
        exact this
      · rw [if_neg he]
        have e4 : textErr b = 4 := by
          unfold textErr at he ⊢
          split
          · rfl
          · split
            · rfl
            · rename_i g1 g2
              rw [if_neg g1, if_neg g2] at he
              exact absurd rfl he
        refine Ev.neg he (Ev.pos e4 (Ev.bd (rtcheck_ev b (by omega)) (Ev.neg he (back_j2 l tl nl))))
end Go.Proofs.YtiledjckdnkjgaaDoor.Pure
