/- Part 17 of the proof of MarkDoes: texts put together. -/
import Derived.Test.YtpklfaglenkdaaaDoorJMarkDoes4
import Derived.Test.YtpklfaglenkdaaaDoorJMarkDoes7
import Derived.Test.YtpklfaglenkdaaaDoorJMarkDoes16
set_option linter.unusedVariables false
set_option linter.unusedSimpArgs false
section
namespace Go.Proofs.YtpklfaglenkdaaaDoor.Pr
open Go.RowKit Go.Proofs.YtpklfaglenkdaaaDoorW.PrintWords Go.Proofs.YtpklfaglenkdaaaDoorW.PrintLast Go.Proofs.YtpklfaglenkdaaaDoorW.PrintMore
def hd92 (s : ByteArray) : Bool := decide (1 ≤ s.size) && ((s.extract 0 1).toList == [92])
def rdB (s : ByteArray) : ByteArray := if (hd92 s && marky (s.extract 1 s.size)) = true then s.extract 1 s.size else s
theorem read_val (s : ByteArray) : mark_read.f s = some (rdB s) := by
  have e92 : (⟨#[92]⟩ : ByteArray).toList = [92] := by decide +kernel
  unfold mark_read.f strings_CutPrefix.f stringslite_CutPrefix.f stringslite_HasPrefix.f rdB hd92
  rw [show (((⟨#[92]⟩ : ByteArray).size : Nat) : Int) = 1 from rfl, e92]
  by_cases h : 1 ≤ s.size
  · rw [if_pos (by omega), if_pos (by omega), if_pos (by omega), decide_eq_true h, Bool.true_and]
    rw [show ((1 : Int)).toNat = 1 from rfl]
    cases h2 : ((s.extract 0 1).toList == [92]) with
    | false => simp
    | true =>
      rw [Bool.true_and]
      unfold strings_TrimLeft.f mark_mark.f marky
      by_cases c : 0 ≤ markN (bareB (s.extract 1 s.size))
      · simp [c, show (1 : Int) ≤ (s.size : Int) by omega]
      · simp [c, show (1 : Int) ≤ (s.size : Int) by omega]
  · rw [if_neg (by omega), decide_eq_false h]
    simp
def kIf (o : List ByteArray) (out : List S43) : List S43 := if 0 < o.length then out ++ [⟨1, o, o, o⟩] else out
def mr : List ByteArray → Int → List ByteArray → List ByteArray → List ByteArray → List S43 → Option (List S43)
  | [], st, o, _, _, out => if st = 0 then some (kIf o out) else none
  | s :: l, st, o, p1, p2, out => if markN s < 0 then mr l st (o ++ [rdB s]) p1 p2 out else if markN s ≠ st then none else
      if st = 0 then mr l 1 [] [] [] (kIf o out) else if st = 1 then mr l 2 [] o [] out else if st = 2 then mr l 3 [] p1 o out else mr l 0 [] [] [] (out ++ [⟨5, p2, p1, o⟩])
def mark_Read.g (out : Option (List S43)) : Option (List S43 × Int) := match out with
  | none => some ([], 12)
  | some out => (merge_Check.f out).bind fun e => if e = 0 then some (out, 0) else some ([], 8)
def mark_Read.f (k : Nat) (l0 : List ByteArray) : Option (List S43 × Int) := if 400 < l0.length then some ([], 4) else mark_Read.g (mr l0 0 [] [] [] [])
structure MR.St (W : World) (gW B : Nat) (cs : Array Value) (v f1 f2 vO vL : Value) (o p1 p2 : List ByteArray) (out : List S43) (ll : List ByteArray) : Prop where
  blk : W.heap[gW]? = some (.cells cs 56 (0, 0))
  lt : gW < B
  sz : B ≤ W.heap.size
  cur : Kd.R Kd.string 9 W B (fun k => B ≤ k) v o
  r1 : Kd.R Kd.string 9 W B (fun k => B ≤ k ∧ some k ≠ v.ownBlock) f1 p1
  r2 : Kd.R Kd.string 9 W B (fun k => B ≤ k ∧ some k ≠ v.ownBlock) f2 p2
  ro : Kd.S k43 43 W B (fun k => (B ≤ k ∧ some k ≠ f1.ownBlock ∧ some k ≠ f2.ownBlock) ∧ some k ≠ v.ownBlock) vO out
  rl : Kd.R Kd.string 9 W (gW + 1) (fun k => gW < k ∧ k < B) vL ll
theorem MR.keep {W W' : World} {gW B : Nat} {cs : Array Value} {v f1 f2 vO vL : Value} {o p1 p2 : List ByteArray} {out : List S43} {ll : List ByteArray} (h : MR.St W gW B cs v f1 f2 vO vL o p1 p2 out ll) (hb : Below W.heap.size W W') : MR.St W' gW B cs v f1 f2 vO vL o p1 p2 out ll :=
  ⟨(hb.block _ (blk_lt h.blk)).trans h.blk, h.lt, Nat.le_trans h.sz (Below.size hb), Kd.R_below h.cur hb, Kd.R_below h.r1 hb, Kd.R_below h.r2 hb, Kd.S_below h.ro hb, Kd.R_below h.rl hb⟩
theorem MR.app {W w5 : World} {gW B : Nat} {cs cs' : Array Value} {v f1 f2 vO vL u : Value} {o o' p1 p2 : List ByteArray} {out : List S43} {ll : List ByteArray} (h : MR.St W gW B cs v f1 f2 vO vL o p1 p2 out ll) (hr : Kd.R Kd.string 9 w5 B (fun k => B ≤ k) u o')
    (hb : Below B W w5) (hg : W.grownBy w5 v.ownBlock) (hat : u.ownBlock = v.ownBlock ∨ ∃ b, u.ownBlock = some b ∧ W.heap.size ≤ b) (i : Nat) (hc : cs.setIfInBounds i u = cs') : MR.St (w5.setCell ⟨gW, i, none⟩ u) gW B cs' u f1 f2 vO vL o' p1 p2 out ll := by
  have far : ∀ k, B ≤ k → k ≠ gW := fun k hk he => by have := h.lt; omega
  refine ⟨blk_put ((hb.block _ h.lt).trans h.blk) i u hc, h.lt, ?_, Kd.R_far hr (fun k hk => far k hk) u, Kd.R_far (Kd.R_after h.r1 hg hat) (fun k hk => far k hk.1) u, Kd.R_far (Kd.R_after h.r2 hg hat) (fun k hk => far k hk.1) u, Kd.S_far (Kd.S_after h.ro hg hat) (fun k hk => far k hk.1.1) u, Kd.R_far (Kd.R_step h.rl (fun k hk _ => hb.block k hk.2)) (fun k hk he => by have he' : k = gW := he; have := hk.1; omega) u⟩
  have h_ := Nat.le_trans h.sz hg.size
  simpa using h_
theorem nil_own (k : Nat) : some k ≠ (Value.slice none 0 0).ownBlock := by simp [Value.ownBlock]
theorem MR.next {W : World} {gW B : Nat} {cs cs' : Array Value} {g1 g2 vO vL : Value} {q1 q2 : List ByteArray} {out : List S43} {ll : List ByteArray} (hblk : W.heap[gW]? = some (.cells cs 56 (0, 0))) (hlt : gW < B) (hsz : B ≤ W.heap.size)
    (h1 : Kd.R Kd.string 9 W B (fun k => B ≤ k) g1 q1) (h2 : Kd.R Kd.string 9 W B (fun k => B ≤ k) g2 q2) (ho : Kd.S k43 43 W B (fun k => B ≤ k ∧ some k ≠ g1.ownBlock ∧ some k ≠ g2.ownBlock) vO out)
    (hl : Kd.R Kd.string 9 W (gW + 1) (fun k => gW < k ∧ k < B) vL ll) (hc : cs.setIfInBounds 0 (.slice none 0 0) = cs') : MR.St (W.setCell ⟨gW, 0, none⟩ (.slice none 0 0)) gW B cs' (.slice none 0 0) g1 g2 vO vL [] q1 q2 out ll := by
  have far : ∀ k, B ≤ k → k ≠ gW := fun k hk he => by omega
  exact ⟨blk_put hblk 0 _ hc, hlt, by simpa using hsz, Kd.R_nil _ _ _ _ _, Kd.R_far (Kd.R_mono h1 (fun k hk => ⟨hk, nil_own k⟩)) (fun k hk => far k hk.1) _, Kd.R_far (Kd.R_mono h2 (fun k hk => ⟨hk, nil_own k⟩)) (fun k hk => far k hk.1) _, Kd.S_far (Kd.S_mono ho (fun k hk => ⟨hk, nil_own k⟩)) (fun k hk => far k hk.1.1) _, Kd.R_far hl (fun k hk he => by have he' : k = gW := he; have := hk.1; omega) _⟩
theorem MR.own {W : World} {B : Nat} {ok : Nat → Prop} {v : Value} {o : List ByteArray} (h : Kd.R Kd.string 9 W B ok v o) (okp : Nat → Prop) (hk : ∀ k, v.ownBlock = some k → okp k) : Kd.R Kd.string 9 W B okp v o := ⟨hk, h.2⟩
theorem MR.sown {W : World} {B : Nat} {ok : Nat → Prop} {v : Value} {o : List S43} (h : Kd.S k43 43 W B ok v o) (k : Nat) (hk : v.ownBlock = some k) : ok k := by
  obtain ⟨f, hR⟩ := h
  exact hR.1 k hk
theorem MR.keptM {W : World} {gW B s s8 : Nat} {cs : Array Value} {v f1 f2 vO vL v3 v4 : Value} {o p1 p2 : List ByteArray} {out : List S43} {ll : List ByteArray} (h : MR.St W gW B cs v f1 f2 vO vL o p1 p2 out ll) (hs : B ≤ s) (hs8 : s ≤ s8)
    (h3 : Kd.R Kd.string 9 W s (fun _ => True) v3 o) (h4 : Kd.R Kd.string 9 W s8 (fun _ => True) v4 o) (ho : Kd.S k43 43 W B (fun k => (B ≤ k ∧ k < s) ∧ some k ≠ v.ownBlock) vO out) :
    Kd.M k43 W B (fun k => some k = v.ownBlock ∨ s ≤ k) (⟨1, o, o, o⟩ : S43) [.int .u8 1, v, v3, v4] ∧ (∀ k, (some k = v.ownBlock ∨ s ≤ k) → B ≤ k ∧ some k ≠ vO.ownBlock) ∧ Kd.S k43 43 W B (fun k => B ≤ k ∧ ¬ (some k = v.ownBlock ∨ s ≤ k)) vO out := by
  refine ⟨k43_mkM _ _ _ ⟨1, o, o, o⟩ (MR.own h.cur _ (fun k hk => .inl hk.symm)) (Kd.R_lower (Kd.R_mono (Kd.R_bound h3) (fun k hk => .inr hk.2.1)) hs) (Kd.R_lower (Kd.R_mono (Kd.R_bound h4) (fun k hk => .inr (Nat.le_trans hs8 hk.2.1))) (Nat.le_trans hs hs8)), ?_, ?_⟩
  · rintro k (hk | hk)
    · exact ⟨h.cur.1 k hk.symm, fun he => (MR.sown h.ro k he.symm).2 hk⟩
    · exact ⟨Nat.le_trans hs hk, fun he => by have h_ := (MR.sown ho k he.symm).1.2; omega⟩
  · exact Kd.S_mono ho (fun k hk => ⟨hk.1.1, fun h => h.elim hk.2 (fun hh => by have h_ := hk.1.2; omega)⟩)
theorem MR.clashM {W : World} {gW B : Nat} {cs : Array Value} {v f1 f2 vO vL : Value} {o p1 p2 : List ByteArray} {out : List S43} {ll : List ByteArray} (h : MR.St W gW B cs v f1 f2 vO vL o p1 p2 out ll) :
    Kd.M k43 W B (fun k => some k = v.ownBlock ∨ some k = f1.ownBlock ∨ some k = f2.ownBlock) (⟨5, p2, p1, o⟩ : S43) [.int .u8 5, f2, f1, v] ∧ (∀ k, (some k = v.ownBlock ∨ some k = f1.ownBlock ∨ some k = f2.ownBlock) → B ≤ k ∧ some k ≠ vO.ownBlock) ∧ Kd.S k43 43 W B (fun k => B ≤ k ∧ ¬ (some k = v.ownBlock ∨ some k = f1.ownBlock ∨ some k = f2.ownBlock)) vO out := by
  refine ⟨k43_mkM _ _ _ ⟨5, p2, p1, o⟩ (MR.own h.r2 _ (fun k hk => .inr (.inr hk.symm))) (MR.own h.r1 _ (fun k hk => .inr (.inl hk.symm))) (MR.own h.cur _ (fun k hk => .inl hk.symm)), ?_, Kd.S_mono h.ro (fun k hk => ⟨hk.1.1, fun hh => by rcases hh with hh | hh | hh; exact hk.2 hh; exact hk.1.2.1 hh; exact hk.1.2.2 hh⟩)⟩
  rintro k (hk | hk | hk)
  · exact ⟨h.cur.1 k hk.symm, fun he => (MR.sown h.ro k he.symm).2 hk⟩
  · exact ⟨(h.r1.1 k hk.symm).1, fun he => (MR.sown h.ro k he.symm).1.2.1 hk⟩
  · exact ⟨(h.r2.1 k hk.symm).1, fun he => (MR.sown h.ro k he.symm).1.2.2 hk⟩
theorem mr_clone (l : List ByteArray) (h : l.length ≤ 1000000) : slices_Clone.f l = some l := by
  unfold slices_Clone.f
  rw [if_pos (by omega)]
abbrev mark_Read.Bz0 : Array Bool := #[false, false, false, false, false, false, false, false, false, false, false, false, false]
abbrev mark_Read.Bz1 : Array Bool := #[true, false, false, false, false, false, false, false, false, false, false, false, false]
abbrev mark_Read.Bz2 : Array Bool := #[true, true, false, false, false, false, false, false, false, false, false, false, false]
abbrev mark_Read.Bz3 : Array Bool := #[true, true, false, true, false, false, false, false, false, false, false, false, false]
abbrev mark_Read.Bz4 : Array Bool := #[true, true, false, true, false, false, true, false, false, false, false, false, false]
abbrev mark_Read.Bz5 : Array Bool := #[true, true, true, true, false, false, true, false, false, false, false, false, false]
abbrev mark_Read.Bz6 : Array Bool := #[true, true, true, true, true, false, true, false, false, false, false, false, false]
abbrev mark_Read.Bz7 : Array Bool := #[true, true, true, true, true, false, true, true, false, false, false, false, false]
abbrev mark_Read.Bz8 : Array Bool := #[true, true, true, true, true, true, true, true, false, false, false, false, false]
abbrev mark_Read.Bz9 : Array Bool := #[true, true, true, true, true, true, true, true, true, false, false, false, false]
abbrev mark_Read.Bz10 : Array Bool := #[true, true, true, true, true, true, true, true, true, true, false, false, false]
abbrev mark_Read.Bz11 : Array Bool := #[true, true, true, true, true, true, true, true, true, true, true, false, false]
abbrev mark_Read.Bz12 : Array Bool := #[true, true, true, true, true, true, true, true, true, true, true, true, false]
abbrev mark_Read.Bz13 : Array Bool := #[true, true, true, true, true, true, true, true, true, true, true, true, true]
abbrev mark_Read.Bz14 : Array Bool := #[false, false, false, false, false, false, false, false, false, false]
abbrev mark_Read.Bz15 : Array Bool := #[true, false, false, false, false, false, false, false, false, false]
abbrev mark_Read.Bz16 : Array Bool := #[true, true, false, false, false, false, false, false, false, false]
abbrev mark_Read.Bz17 : Array Bool := #[true, true, true, false, false, false, false, false, false, false]
abbrev mark_Read.Bz18 : Array Bool := #[true, true, true, false, true, false, false, false, false, false]
abbrev mark_Read.Bz19 : Array Bool := #[true, true, true, true, true, false, false, false, false, false]
abbrev mark_Read.Bz20 : Array Bool := #[true, true, true, true, true, true, false, false, false, false]
abbrev mark_Read.Bz21 : Array Bool := #[true, true, true, true, true, true, true, false, false, false]
abbrev mark_Read.Bz22 : Array Bool := #[true, true, true, true, true, true, true, true, false, false]
abbrev mark_Read.Bz23 : Array Bool := #[true, true, true, true, true, true, true, true, true, false]
abbrev mark_Read.Bz24 : Array Bool := #[true, true, true, true, true, true, true, true, true, true]
open mark_Read in
set_option maxHeartbeats 8000000 in
set_option maxRecDepth 100000 in
theorem mark_Read.calls (k : Nat) (A0 : Option Addr) (c0 : Nat) (l0 : List ByteArray) (r1 : List S43) (r2 : Int) (w : World) (hr0 : Kd.C Kd.string w A0 l0.length l0) (hc0 : l0.length ≤ c0) (h : mark_Read.f k l0 = some (r1, r2)) :
  Calls Tryd.prog 12 #[.slice A0 l0.length c0] w fun e w' => ∃ v0_ : Value, e = .returned (.tuple #[v0_, .int .i64 r2]) ∧ Kd.S k43 43 w' w.heap.size (fun _ => True) v0_ r1 ∧ Below w.heap.size w w' := by
 have hu := Tryd.underlying43
 unfold mark_Read.f at h
 have HR0 := Aside0.mk hr0
 have HC0 := Aside0.mk hc0
 clear hr0 hc0
 by_cases hbig : 400 < l0.length
 ·rw [if_pos hbig] at h
  obtain ⟨rfl, rfl⟩ := Prod.mk.inj (Option.some.inj h)
  have kb0 : decide ((l0.length : Int) > 400) = true := decide_eq_true (by omega)
  have kb1 : decide ((400 : Int) < (l0.length : Int)) = true := kb0
  have kb2 : decide (400 < l0.length) = true := decide_eq_true hbig
  clear h
  go_enter Tryd.func12, Tryd.ntmps12
  go_wp2
  go_ret2
  exact ⟨_, rfl, Kd.S_nil _ _ _ _ _, Below.refl _ _⟩
 ·rw [if_neg hbig] at h
  have HG := Aside0.mk h
  have kb0 : decide ((l0.length : Int) > 400) = false := decide_eq_false (by omega)
  have kb1 : decide ((400 : Int) < (l0.length : Int)) = false := kb0
  have kb2 : decide (400 < l0.length) = false := decide_eq_false hbig
  have HBG := Aside0.mk (show l0.length ≤ 400 by omega)
  have HCV := Aside0.mk (mr_clone l0 (by omega))
  clear h hbig
  obtain ⟨gW, hgW⟩ : ∃ gW, gW = w.heap.size := ⟨_, rfl⟩
  have HGW := Aside0.mk hgW
  clear hgW
  go_enter Tryd.func12, Tryd.ntmps12
  go_upto_region 7 with (first | (go_at_call 34; (with_reducible refine (slices_Clone.calls A0 c0 l0 l0 _ (Kd.C_alloc HR0.out _) HC0.out HCV.out).mono ?_); rintro e_ w2 ⟨v2, rfl, hr2, hb2⟩; obtain ⟨A2, c2, rfl⟩ := Kd.R_slice hr2; have HR2 := Aside0.mk hr2; have HB2 := Aside0.mk hb2; clear hr2 hb2) | ((with_reducible refine gate_builtin (b := .append) (xs := #[.tmp 15, .tmp 16]) rfl ?_); at_builtin; refine Kd.R_append Kd.string (w0 := w2) (gW + 1) rfl (.tmp 15) (.tmp 16) 23 9 (.string ⟨#[]⟩) 16 rfl Tryd.underlying23 info9 rfl (by decide) (by omega) (.slice A2 l0.length c2) l0 (⟨#[]⟩ : ByteArray) [.string ⟨#[]⟩] (fun k => gW < k) (fun _ => False) rfl rfl ?aP (fun _ hk => hk.elim) ?aF ?aO ?aB ?aS ?aL ?_; (case aP => exact rfl); (case aB => exact (Below.refl _ _)); (case aF => exact (fun k hk => Nat.lt_of_lt_of_le (by have h_ := Below.size HB2.out; have h2_ := HGW.out; simp at h_; omega) hk)); (case aO => exact (by have h_ := HR2.out; rw [show (w.alloc (Obj.cells #[.slice none 0 0, .slice none 0 0, .slice none 0 0, .slice none 0 0] 56)).heap.size = gW + 1 by rw [HGW.out]; simp] at h_; exact Kd.R_mono (Kd.R_bound h_) (fun k hk => hk.2.1))); (case aS => exact (by have h_ := Below.size HB2.out; have h2_ := HGW.out; simp at h_; omega)); (case aL => have h_ := HBG.out; omega); intro v9 w5 hr9 hb9 hg9 hat9; obtain ⟨A17, c17, rfl⟩ := Kd.R_slice hr9; obtain ⟨n17, hn9⟩ : ∃ n9 : Nat, n9 = (l0 ++ [(⟨#[]⟩ : ByteArray)]).length := ⟨_, rfl⟩; rw [← hn9] at hr9 ⊢; have HN17 := Aside0.mk hn9; have HR9 := Aside0.mk hr9; have HB9 := Aside0.mk hb9; clear hr9 hb9 hat9 hg9 hn9))
  rw [← HGW.out]
  obtain ⟨B, hB⟩ : ∃ B, B = w5.heap.size := ⟨_, rfl⟩
  have HN := Aside0.mk (show n17 = l0.length + 1 by rw [HN17.out]; simp)
  have HS2 := Aside0.mk (show gW + 1 ≤ w2.heap.size by have h_ := Below.size HB2.out; have h2_ := HGW.out; simp at h_; omega)
  have HST5 := Aside0.mk (show MR.St w5 gW B #[(.slice none 0 0), (.slice none 0 0), (.slice none 0 0), (.slice none 0 0)] (.slice none 0 0) (.slice none 0 0) (.slice none 0 0) (.slice none 0 0) (.slice A17 n17 c17) [] [] [] [] (l0 ++ [(⟨#[]⟩ : ByteArray)]) by
   refine ⟨?_, ?_, by rw [hB]; exact Nat.le_refl _, Kd.R_nil _ _ _ _ _, Kd.R_nil _ _ _ _ _, Kd.R_nil _ _ _ _ _, Kd.S_nil _ _ _ _ _, Kd.R_mono (Kd.R_bound HR9.out) (fun k hk => ⟨hk.1, by rw [hB]; exact hk.2.2.1⟩)⟩
   ·refine (HB9.out.block _ (Nat.lt_succ_self _)).trans ((HB2.out.block _ (by have h_ := HGW.out; simp; omega)).trans ?_)
    rw [HGW.out]
    exact Go.heap_alloc_new w _
   ·rw [hB]
    exact Nat.lt_of_lt_of_le HS2.out (Below.size HB9.out))
  have HBW5 := Aside0.mk (show Below w.heap.size w w5 by
   refine Below.trans (Below.trans ((Below.refl _ _).alloc (Nat.le_refl _) _) (Below.mono HB2.out (by simp))) (Below.mono HB9.out (by have h_ := HGW.out; omega)))
  clear hB HR9 HB9 HB2 HR2 HN17 HS2 HCV
  go_wp2
  go_loopg [0, 4, 6, 19] (l0.length + 2) (fun gg t0 t4 t6 t19 wr => ∃ (j : Nat) (st : Int) (A' : Option Addr) (m c' : Nat) (v f1 f2 : Value) (o p1 p2 : List ByteArray) (out : List S43) (cs : Array Value), t0 = .slice A' m c' ∧ t6 = .int .i64 st ∧ t19 = .int .i64 (j : Int) ∧ Aside0 (m = l0.length - j ∧ m ≤ c' ∧ l0.length + 2 - j ≤ gg) ∧
   Aside0 (j ≤ l0.length ∧ mark_Read.g (mr (l0.drop j) st o p1 p2 out) = some (r1, r2) ∨ j = l0.length + 1 ∧ mark_Read.g (some out) = some (r1, r2)) ∧
   Aside0 (st = 0 ∧ cs = #[v, (.slice none 0 0), (.slice none 0 0), (.slice none 0 0)] ∨ st = 1 ∧ cs = #[(.slice none 0 0), v, (.slice none 0 0), (.slice none 0 0)] ∨ st = 2 ∧ cs = #[(.slice none 0 0), f1, v, (.slice none 0 0)] ∨ st = 3 ∧ cs = #[(.slice none 0 0), f1, f2, v]) ∧ Aside0 (o.length ≤ j ∧ out.length ≤ j) ∧
   Aside0 (MR.St wr gW B cs v f1 f2 t4 (.slice A17 n17 c17) o p1 p2 out (l0 ++ [(⟨#[]⟩ : ByteArray)])) ∧ Aside0 (Below w.heap.size w wr))
  case atStart => exact ⟨0, 0, A0, l0.length, c0, (.slice none 0 0), (.slice none 0 0), (.slice none 0 0), [], [], [], [], #[(.slice none 0 0), (.slice none 0 0), (.slice none 0 0), (.slice none 0 0)], rfl, rfl, rfl, ⟨rfl, HC0.out, Nat.le_refl _⟩, ⟨.inl ⟨Nat.zero_le _, HG.out⟩⟩, ⟨.inl ⟨rfl, rfl⟩⟩, ⟨Nat.le_refl _, Nat.le_refl _⟩, HST5, HBW5⟩
  case round =>
   clear HST5 HBW5 HG
   obtain ⟨j, st, A', m, c', v, f1, f2, o, p1, p2, out, cs, rfl, rfl, rfl, HJ, HM, HCS, HLO, HST, HBL⟩ := hrel
   obtain ⟨AO, cO, rfl⟩ := Kd.S_slice HST.out.ro
   by_cases hjl : j = l0.length + 1
   ·have hg : mark_Read.g (some out) = some (r1, r2) := by
     rcases HM.out with ⟨h, _⟩ | ⟨_, h⟩
     ·omega
     ·exact h
    have q1 : decide ((j : Int) < (n17 : Int)) = false := decide_eq_false (by have h_ := HN.out; omega)
    have q2 : decide (j < n17) = false := decide_eq_false (by have h_ := HN.out; omega)
    have q3 : (j < n17) = False := eq_false (by have h_ := HN.out; omega)
    unfold mark_Read.g at hg
    replace hg := Option.bind_eq_some_iff.1 hg
    obtain ⟨ce, hce, hg⟩ := hg
    have HCE := Aside0.mk hce
    have HHG := Aside0.mk hg
    clear hce hg hjl
    by_cases hz : ce = 0
    ·subst hz
     obtain ⟨rfl, rfl⟩ := Prod.mk.inj (Option.some.inj ((if_pos rfl).symm.trans HHG.out))
     go_wp2_with (go_at_call 28; (with_reducible refine (merge_Check.calls AO cO out 0 _ (Kd.S_reads' HST.out.ro).2.2 (Kd.S_reads' HST.out.ro).2.1 HCE.out).mono ?_); rintro e_ w7 ⟨rfl, hb7⟩; have HB7 := Aside0.mk hb7; clear hb7)
     go_ret2
     exact ⟨_, rfl, Kd.S_lower (Kd.S_mono (Kd.S_below HST.out.ro HB7.out) (fun _ _ => trivial)) (by have h_ := HST.out.lt; have h2_ := HGW.out; omega), Below.trans HBL.out (Below.mono HB7.out (Below.size HBL.out))⟩
    ·obtain ⟨rfl, rfl⟩ := Prod.mk.inj (Option.some.inj ((if_neg hz).symm.trans HHG.out))
     have z1 : (ce == 0) = false := beq_eq_false_iff_ne.2 hz
     clear hz
     go_wp2_with (go_at_call 28; (with_reducible refine (merge_Check.calls AO cO out ce _ (Kd.S_reads' HST.out.ro).2.2 (Kd.S_reads' HST.out.ro).2.1 HCE.out).mono ?_); rintro e_ w7 ⟨rfl, hb7⟩; have HB7 := Aside0.mk hb7; clear hb7)
     go_ret2
     exact ⟨_, rfl, Kd.S_nil _ _ _ _ _, Below.trans HBL.out (Below.mono HB7.out (Below.size HBL.out))⟩
   ·have hg : j ≤ l0.length ∧ mark_Read.g (mr (l0.drop j) st o p1 p2 out) = some (r1, r2) := by
     rcases HM.out with h | ⟨h, _⟩
     ·exact h
     ·exact absurd h hjl
    have q1 : decide ((j : Int) < (n17 : Int)) = true := decide_eq_true (by have h_ := HN.out; have h2_ := hg.1; omega)
    have q2 : decide (j < n17) = true := decide_eq_true (by have h_ := HN.out; have h2_ := hg.1; omega)
    have q3 : (j < n17) = True := eq_true (by have h_ := HN.out; have h2_ := hg.1; omega)
    obtain ⟨i0_, hi0_, _, hsz_, _⟩ := info_parts info9
    have hC := (Kd.R_reads' HST.out.rl).2.2
    obtain ⟨ad, rfl, hcell⟩ := Kd.at_string hC (j : Int) (by omega) (by have h_ := hg.1; simp only [List.length_append, List.length_cons, List.length_nil]; omega)
    simp only [Int.toNat_natCast] at hcell
    clear hC
    by_cases hje : j = l0.length
    ·have hm : m = 0 := by have h_ := HJ.out.1; omega
     subst hm
     rw [show rdOf ByteArray.empty (l0 ++ [(⟨#[]⟩ : ByteArray)]) (j : Int) = (⟨#[]⟩ : ByteArray) by unfold rdOf; rw [Int.toNat_natCast, List.getD_eq_getElem?_getD, hje, List.getElem?_append_right (Nat.le_refl _)]; simp] at hcell
     have HY := Aside0.mk (show mark_Read.g (if st = 0 then some (kIf o out) else none) = some (r1, r2) by
      have h_ := hg.2
      rw [hje, List.drop_length] at h_
      unfold mr at h_
      exact h_)
     have HLT := Aside0.mk (show j < l0.length + 1 by omega)
     clear hg hjl hje HM hi0_ hsz_
     go_upto_region 12 with (go_at_call 35; (with_reducible refine (mark_mark.calls (⟨#[]⟩ : ByteArray) (markN (⟨#[]⟩ : ByteArray)) _ rfl).mono ?_); rintro e_ w7 ⟨rfl, hb7⟩; have HB7 := Aside0.mk hb7; clear hb7)
     obtain ⟨A1, hA1⟩ : ∃ A1, A1 = (if c' = (min (1 : Int) 0).toNat then A' else Option.map (fun x => x.add (min (1 : Int) 0).toNat) A') := ⟨_, rfl⟩
     obtain ⟨c1, hc1⟩ : ∃ c1, c1 = c' - (min (1 : Int) 0).toNat := ⟨_, rfl⟩
     rw [← hA1, ← hc1]
     have HJE := Aside0.mk (show j + 1 = l0.length + 1 by have h_ := HJ.out; have h2_ := HLT.out; omega)
     have HJ1 := Aside0.mk (show 0 = l0.length - (j + 1) ∧ 0 ≤ c1 ∧ l0.length + 2 - (j + 1) ≤ l0.length + 2 - (j + 1) by have h_ := HJE.out; omega)
     have HSTn := Aside0.mk (MR.keep HST.out HB7.out)
     have HBLn := Aside0.mk (show Below w.heap.size w w7 from Below.trans HBL.out (Below.mono HB7.out (Below.size HBL.out)))
     clear hA1 hc1 HST HBL HB7 hcell
     have HST := HSTn
     have HBL := HBLn
     clear HSTn HBLn
     by_cases hst : st = 0
     ·subst hst
      have HNX := Aside0.mk (show mark_Read.g (some (kIf o out)) = some (r1, r2) from HY.out)
      obtain rfl : cs = #[v, .slice none 0 0, .slice none 0 0, .slice none 0 0] := by
       rcases HCS.out with ⟨_, h⟩ | ⟨h, _⟩ | ⟨h, _⟩ | ⟨h, _⟩
       ·exact h
       ·exact absurd h (by decide)
       ·exact absurd h (by decide)
       ·exact absurd h (by decide)
      clear HY
      by_cases ho : o = []
      ·subst ho
       have hbk0 := (blk_cell HST.out.blk 0).trans rfl
       have hfz0 := blk_frozen HST.out.blk 0
       obtain ⟨Av, cv, rfl⟩ := Kd.R_slice HST.out.cur
       have HN1 := Aside0.mk (show mark_Read.g (some (kIf [] out)) = some (r1, r2) from HNX.out)
       have HN9 := Aside0.mk (MR.next HST.out.blk HST.out.lt HST.out.sz (Kd.R_nil Kd.string 9 _ B _) (Kd.R_nil Kd.string 9 _ B _) (Kd.S_mono HST.out.ro (fun k hk => ⟨hk.1.1, nil_own k, nil_own k⟩)) HST.out.rl (cs' := #[.slice none 0 0, .slice none 0 0, .slice none 0 0, .slice none 0 0]) rfl)
       go_wp2
       obtain ⟨W9, hW9⟩ : ∃ W9, W9 = w7.setCell ⟨gW, 0, none⟩ (.slice none 0 0) := ⟨_, rfl⟩
       rw [← hW9]
       rw [← hW9] at HN9
       have HBL9 := Aside0.mk (show Below w.heap.size w W9 by rw [hW9]; exact Below.setCell (p := ⟨gW, 0, none⟩) HBL.out (by have h2_ := HGW.out; exact Nat.le_of_eq h2_.symm) _)
       clear hW9
       go_roundg (l0.length + 2 - (j + 1))
       case measure => have h_ := HJ.out.2.2; have h2_ := HLT.out; omega
       case rel => exact ⟨j + 1, 1, _, _, _, _, _, _, [], [], [], out, _, rfl, rfl, (by have h_ := HLT.out; have h2_ := HBG.out; first | go_num | exact congrArg (Value.int .i64) (by rw [w64 (by omega)]; omega)), HJ1, ⟨.inr ⟨HJE.out, HN1.out⟩⟩, ⟨.inr (.inl ⟨rfl, rfl⟩)⟩, ⟨by have h_ := HLO.out; simp; omega⟩, HN9, HBL9⟩
      ·have hol : 0 < o.length := List.length_pos_iff.2 ho
       have HKI := Aside0.mk (show kIf o out = out ++ [⟨1, o, o, o⟩] from if_pos hol)
       have hol0 : decide ((o.length : Int) > 0) = true := decide_eq_true (by omega)
       have hol1 : decide ((0 : Int) < (o.length : Int)) = true := hol0
       have hol2 : decide (0 < o.length) = true := decide_eq_true hol
       have hol3 : (0 < o.length) = True := eq_true hol
       obtain ⟨Av, cv, rfl⟩ := Kd.R_slice HST.out.cur
       have hbk0 := (blk_cell HST.out.blk 0).trans rfl
       have hfz0 := blk_frozen HST.out.blk 0
       have HN1 := Aside0.mk (show mark_Read.g (some (kIf o out)) = some (r1, r2) from HNX.out)
       clear ho hol
       go_upto_region 17 with fail
       have HSD := Aside0.mk (MR.keep HST.out (below_drew1 (Below.refl _ _)))
       have HLN := Aside0.mk (show (out.length + 1) * 80 ≤ 140737488355328 by have h_ := HLO.out.2; have h2_ := HLT.out; have h3_ := HBG.out; omega)
       have HCO := Aside0.mk (mr_clone o (by have h_ := HLO.out.1; have h2_ := HLT.out; have h3_ := HBG.out; omega))
       refine start_ (n := 13) (S := fun w' => w'.cell? ⟨gW, 0, none⟩ = some (.slice Av o.length cv)) (ds := [11]) Bz0 (by kernel_rfl) rfl rfl (((blk_cell HSD.out.blk 0).trans rfl)) (fun hHeld => ?_)
       refine pu 0 70 Bz1 rfl rfl (by kernel_rfl) ?_
       refine pu 1 71 Bz2 rfl rfl (by kernel_rfl) ?_
       refine pu 3 73 Bz3 rfl rfl (by kernel_rfl) ?_
       refine pu 6 76 Bz4 rfl rfl (by kernel_rfl) ?_
       refine take_ (i := 2) (N := some 72) (v := ?_) (a' := ?_) Bz5 rfl rfl (by kernel_rfl) (fun _ _ _ h => h) (Or.inl ⟨by rfl, ?_⟩) hHeld ?_ ?_
       rotate_left
       ·intro w' s0
        go_simp
        with_reducible rfl
       rotate_left
       ·simp only [Act.put, List.setIfInBounds_toArray, List.set_cons_zero, List.set_cons_succ, i64_w, i32_w]
        rfl
       refine take_ (i := 4) (N := some 74) (v := ?_) (a' := ?_) Bz6 rfl rfl (by kernel_rfl) (fun _ _ _ h => h) (Or.inl ⟨by rfl, ?_⟩) hHeld ?_ ?_
       rotate_left
       ·intro w' s0
        go_simp
        with_reducible rfl
       rotate_left
       ·simp only [Act.put, List.setIfInBounds_toArray, List.set_cons_zero, List.set_cons_succ, i64_w, i32_w]
        rfl
       refine take_ (i := 7) (N := some 77) (v := ?_) (a' := ?_) Bz7 rfl rfl (by kernel_rfl) (fun _ _ _ h => h) (Or.inl ⟨by rfl, ?_⟩) hHeld ?_ ?_
       rotate_left
       ·intro w' s0
        go_simp
        with_reducible rfl
       rotate_left
       ·simp only [Act.put, List.setIfInBounds_toArray, List.set_cons_zero, List.set_cons_succ, i64_w, i32_w]
        rfl
       refine one_ (i := 5) (N := some 75) Bz8 rfl rfl (by kernel_rfl) (by decide) (fun K hK => ?_)
       refine goes_ Tryd.func34 (by kernel_rfl) rfl #[.slice Av o.length cv] (by rfl) rfl rfl (by simp only [List.map_toArray, List.map_cons, List.map_nil]; rfl) ?_
       with_reducible refine (slices_Clone.calls Av cv o o _ (Kd.R_reads' HSD.out.cur).2.2 (Kd.R_reads' HSD.out.cur).2.1 HCO.out).mono ?_
       rintro e w8 ⟨v3, rfl, hr8, hq8⟩
       refine ⟨_, rfl, ?_⟩
       obtain ⟨A3, c3, rfl⟩ := Kd.R_slice hr8
       have HS8 := Aside0.mk (MR.keep HSD.out hq8)
       have HV3 := Aside0.mk hr8
       have HQ8 := Aside0.mk hq8
       clear hr8 hq8
       refine hK.out _ _ (((blk_cell HS8.out.blk 0).trans rfl)) (fun hHeld => ?_)
       clear hK K
       refine norm_ (a' := ?_) ?_ ?_
       rotate_left
       ·show Act.put _ (some 75) _ = _
        simp only [Act.put, List.setIfInBounds_toArray, List.set_cons_zero, List.set_cons_succ, i64_w, i32_w]
        rfl
       refine one_ (i := 8) (N := some 78) Bz9 rfl rfl (by kernel_rfl) (by decide) (fun K hK => ?_)
       refine goes_ Tryd.func34 (by kernel_rfl) rfl #[.slice Av o.length cv] (by rfl) rfl rfl (by simp only [List.map_toArray, List.map_cons, List.map_nil]; rfl) ?_
       with_reducible refine (slices_Clone.calls Av cv o o _ (Kd.R_reads' HS8.out.cur).2.2 (Kd.R_reads' HS8.out.cur).2.1 HCO.out).mono ?_
       rintro e w9 ⟨v4, rfl, hr9, hq9⟩
       refine ⟨_, rfl, ?_⟩
       obtain ⟨A4, c4, rfl⟩ := Kd.R_slice hr9
       have HS9 := Aside0.mk (MR.keep HS8.out hq9)
       have HV4 := Aside0.mk hr9
       have HV3b := Aside0.mk (Kd.R_below HV3.out hq9)
       have HQ9 := Aside0.mk hq9
       clear hr9 hq9
       refine hK.out _ _ (((blk_cell HS9.out.blk 0).trans rfl)) (fun hHeld => ?_)
       clear hK K
       refine norm_ (a' := ?_) ?_ ?_
       rotate_left
       ·show Act.put _ (some 78) _ = _
        simp only [Act.put, List.setIfInBounds_toArray, List.set_cons_zero, List.set_cons_succ, i64_w, i32_w]
        rfl
       refine pu 9 79 Bz10 rfl rfl (by kernel_rfl) ?_
       refine one_ (i := 10) (N := some 80) Bz11 rfl rfl (by kernel_rfl) (by decide) (fun K hK => ?_)
       refine value_ (w1 := ?_) (v := ?_) (by rfl) rfl ?_ ?_
       rotate_left 2
       ·go_simp
        constructor
        ·rfl
        ·rfl
       refine hK.out _ _ (((blk_cell (blk_alloc HS9.out.blk _) 0).trans rfl)) (fun hHeld => ?_)
       clear hK K
       refine norm_ (a' := ?_) ?_ ?_
       rotate_left
       ·show Act.put _ (some 80) _ = _
        simp only [Act.put, List.setIfInBounds_toArray, List.set_cons_zero, List.set_cons_succ, i64_w, i32_w]
        rfl
       refine last_ (i := 11) (N := some 81) Bz12 rfl rfl (by kernel_rfl) (by decide) (fun K hK => ?_)
       have HOK := Aside0.mk (MR.keptM HS9.out HSD.out.sz (Below.size HQ8.out) HV3b.out HV4.out (Kd.S_below (Kd.S_below (Kd.S_mono (Kd.S_bound HSD.out.ro) (fun k hk => ⟨⟨hk.1.1.1, hk.2.2.1⟩, hk.1.2⟩)) HQ8.out) HQ9.out))
       refine Kd.S_append_step k43 (w0 := w9) B (by rfl) (.tmp 70) (.tmp 80) 22 43 (.agg #[.int .u8 0, .slice none 0 0, .slice none 0 0, .slice none 0 0]) 80 (by rfl) Tryd.underlying22 info43 rfl (by decide) (by omega) (.slice AO out.length cO) out ⟨1, o, o, o⟩ [.int .u8 1, .slice Av o.length cv, .slice A3 o.length c3, .slice A4 o.length c4] (fun k => B ≤ k) (fun k => some k = (Value.slice Av o.length cv).ownBlock ∨ w7.drew.heap.size ≤ k) (by rfl) (by rfl) HOK.out.1 HOK.out.2.1 (fun k hk => Nat.le_trans HS9.out.sz hk) HOK.out.2.2 (Below.refl _ _) HS9.out.sz HLN.out ?_
       intro v9 w5 hs9 hb9 hg9 hat9
       obtain ⟨A9, c9, rfl⟩ := Kd.S_slice hs9
       obtain ⟨o9, ho9⟩ : ∃ o9, o9 = out ++ [⟨1, o, o, o⟩] := ⟨_, rfl⟩
       rw [← ho9] at hs9 ⊢
       have HO9 := Aside0.mk ho9
       have HS5 := Aside0.mk hs9
       have HB5 := Aside0.mk hb9
       clear hs9 hb9 hg9 hat9 ho9
       refine hK.out _ _ ?_
       clear hK K
       refine norm_ (a' := ?_) ?_ ?_
       rotate_left
       ·show Act.put _ (some 81) _ = _
        simp only [Act.put, List.setIfInBounds_toArray, List.set_cons_zero, List.set_cons_succ, i64_w, i32_w]
        rfl
       refine pu 12 4 Bz13 rfl rfl (by kernel_rfl) ?_
       refine done_ (by kernel_rfl) ?_
       have HSE := Aside0.mk (show kIf o out = o9 by rw [HKI.out, HO9.out])
       have hbk5 := (HB5.out.block _ HS9.out.lt).trans HS9.out.blk
       have hbk1 := (blk_cell hbk5 0).trans rfl
       have hfz1 := blk_frozen hbk5 0
       have HN9 := Aside0.mk (MR.next hbk5 HST.out.lt (Nat.le_trans HS9.out.sz (Below.size HB5.out)) (Kd.R_nil Kd.string 9 _ B _) (Kd.R_nil Kd.string 9 _ B _) (Kd.S_mono HS5.out (fun k hk => ⟨hk, nil_own k, nil_own k⟩)) (Kd.R_step HS9.out.rl (fun k hk _ => HB5.out.block k hk.2)) (cs' := #[.slice none 0 0, .slice none 0 0, .slice none 0 0, .slice none 0 0]) rfl)
       have HBL5 := Aside0.mk (show Below w.heap.size w w5 by
        have h1_ := Below.size HBL.out
        have h2_ := Below.size HQ8.out
        refine Below.trans HBL.out (Below.trans (Below.mono (below_drew1 (Below.refl _ _)) h1_) (Below.trans (Below.mono HQ8.out h1_) (Below.trans (Below.mono HQ9.out (Nat.le_trans h1_ h2_)) (Below.mono HB5.out (by have h3_ := HST.out.lt; have h4_ := HGW.out; omega))))))
       clear hbk0 hbk5 hfz0
       (try simp only [Exit.inBlock, Exit.then])
       go_wp2
       obtain ⟨W9, hW9⟩ : ∃ W9, W9 = w5.setCell ⟨gW, 0, none⟩ (.slice none 0 0) := ⟨_, rfl⟩
       rw [← hW9]
       rw [← hW9] at HN9
       have HBL9 := Aside0.mk (show Below w.heap.size w W9 by rw [hW9]; exact Below.setCell (p := ⟨gW, 0, none⟩) HBL5.out (by have h2_ := HGW.out; exact Nat.le_of_eq h2_.symm) _)
       have HN2 := Aside0.mk (show mark_Read.g (some o9) = some (r1, r2) by rw [← HSE.out]; exact HN1.out)
       have HLO9 := Aside0.mk (show ([] : List ByteArray).length ≤ j + 1 ∧ o9.length ≤ j + 1 by have h_ := HLO.out; rw [HO9.out, List.length_append]; simp; omega)
       clear hW9
       go_roundg (l0.length + 2 - (j + 1))
       case measure => have h_ := HJ.out.2.2; have h2_ := HLT.out; omega
       case rel => exact ⟨j + 1, 1, _, _, _, _, _, _, [], [], [], o9, _, rfl, rfl, (by have h_ := HLT.out; have h2_ := HBG.out; first | go_num | exact congrArg (Value.int .i64) (by rw [w64 (by omega)]; omega)), HJ1, ⟨.inr ⟨HJE.out, HN2.out⟩⟩, ⟨.inr (.inl ⟨rfl, rfl⟩)⟩, HLO9, HN9, HBL9⟩
     ·have hg : mark_Read.g none = some (r1, r2) := by
       have h_ := HY.out
       rw [if_neg hst] at h_
       exact h_
      obtain ⟨rfl, rfl⟩ := Prod.mk.inj (Option.some.inj hg)
      have ks1 : (st == 0) = false := beq_eq_false_iff_ne.2 hst
      have ks2 : decide (st = 0) = false := decide_eq_false hst
      have ks3 : (st = 0) = False := eq_false hst
      have ks4 : (st != 0) = true := bne_iff_ne.2 hst
      have ks5 : decide (¬ st = 0) = true := decide_eq_true hst
      clear hg hst HY
      go_wp2
      go_ret2
      exact ⟨_, rfl, Kd.S_nil _ _ _ _ _, HBL.out⟩
    ·have hlt : j < l0.length := by omega
     have hd := drop_at l0 j hlt
     rw [show rdOf ByteArray.empty (l0 ++ [(⟨#[]⟩ : ByteArray)]) (j : Int) = l0[j] by unfold rdOf; rw [Int.toNat_natCast, List.getD_eq_getElem?_getD, List.getElem?_append_left hlt, List.getElem?_eq_getElem hlt]; rfl] at hcell
     obtain ⟨y, hy⟩ : ∃ y, y = l0[j] := ⟨_, rfl⟩
     rw [← hy] at hcell hd
     have HRD := Aside0.mk (read_val y)
     have HY := Aside0.mk (show mark_Read.g (mr (y :: l0.drop (j + 1)) st o p1 p2 out) = some (r1, r2) by rw [← hd]; exact hg.2)
     have m0 : ((m : Int) == 0) = false := beq_eq_false_iff_ne.2 (by have h_ := HJ.out.1; omega)
     have m1 : decide ((m : Int) = 0) = false := decide_eq_false (by have h_ := HJ.out.1; omega)
     have m2 : (m == 0) = false := beq_eq_false_iff_ne.2 (by have h_ := HJ.out.1; omega)
     have m3 : (m = 0) = False := eq_false (by have h_ := HJ.out.1; omega)
     have hmin : min (1 : Int) (m : Int) = 1 := by have h_ := HJ.out.1; omega
     have HLT := Aside0.mk hlt
     clear hd hy hg hjl hje HM hlt hi0_ hsz_
     go_upto_region 12 with (go_at_call 35; (with_reducible refine (mark_mark.calls y (markN y) _ rfl).mono ?_); rintro e_ w7 ⟨rfl, hb7⟩; have HB7 := Aside0.mk hb7; clear hb7)
     obtain ⟨A1, hA1⟩ : ∃ A1, A1 = (if c' = 1 then A' else Option.map (fun x => ({ block := x.block, off := x.off + 1 } : Addr)) A') := ⟨_, rfl⟩
     rw [← hA1]
     have HJ1 := Aside0.mk (show m - 1 = l0.length - (j + 1) ∧ m - 1 ≤ c' - 1 ∧ l0.length + 2 - (j + 1) ≤ l0.length + 2 - (j + 1) by have h_ := HJ.out; omega)
     have HSTn := Aside0.mk (MR.keep HST.out HB7.out)
     have HBLn := Aside0.mk (show Below w.heap.size w w7 from Below.trans HBL.out (Below.mono HB7.out (Below.size HBL.out)))
     clear hA1 HST HBL HB7 hcell hmin m0 m1 m2 m3
     have HST := HSTn
     have HBL := HBLn
     clear HSTn HBLn
     by_cases hk : markN y < 0
     ·have hk1 : decide (markN y < 0) = true := decide_eq_true hk
      rcases HCS.out with ⟨rfl, rfl⟩ | ⟨rfl, rfl⟩ | ⟨rfl, rfl⟩ | ⟨rfl, rfl⟩
      ·have HN1 := Aside0.mk (show mark_Read.g (mr (l0.drop (j + 1)) 0 (o ++ [rdB y]) p1 p2 out) = some (r1, r2) by
        have h_ := HY.out
        unfold mr at h_
        rw [if_pos hk] at h_
        exact h_)
       have HLN := Aside0.mk (show (o.length + 1) * 16 ≤ 140737488355328 by have h_ := HLO.out.1; have h2_ := HLT.out; have h3_ := HBG.out; omega)
       have hbk0 := (blk_cell HST.out.blk 0).trans rfl
       clear hk
       go_upto_region 13 with fail
       clear hk1
       refine start_ (n := 10) (S := fun w' => w'.cell? ⟨gW, 0, none⟩ = some v) (ds := [7, 9]) Bz14 (by kernel_rfl) rfl rfl (((blk_cell (blk_drew HST.out.blk) 0).trans rfl)) (fun hHeld => ?_)
       refine pu 0 39 Bz15 rfl rfl (by kernel_rfl) ?_
       refine pu 1 40 Bz16 rfl rfl (by kernel_rfl) ?_
       refine pu 2 41 Bz17 rfl rfl (by kernel_rfl) ?_
       refine pu 4 43 Bz18 rfl rfl (by kernel_rfl) ?_
       refine take_ (i := 3) (N := some 42) (v := ?_) (a' := ?_) Bz19 rfl rfl (by kernel_rfl) (fun _ _ _ h => h) (Or.inl ⟨by rfl, ?_⟩) hHeld ?_ ?_
       rotate_left
       ·intro w' s0
        go_simp
        with_reducible rfl
       rotate_left
       ·simp only [Act.put, List.setIfInBounds_toArray, List.set_cons_zero, List.set_cons_succ, i64_w, i32_w]
        rfl
       refine one_ (i := 5) (N := some 44) Bz20 rfl rfl (by kernel_rfl) (by decide) (fun K hK => ?_)
       refine goes_ Tryd.func36 (by kernel_rfl) rfl #[.string y] (by rfl) rfl rfl (by simp only [List.map_toArray, List.map_cons, List.map_nil]; rfl) ?_
       with_reducible refine (mark_read.calls y (rdB y) _ HRD.out).mono ?_
       rintro e w1 ⟨rfl, hq1⟩
       refine ⟨_, rfl, ?_⟩
       have HS1 := Aside0.mk (MR.keep (MR.keep HST.out (below_drew1 (Below.refl _ _))) hq1)
       have HQ1 := Aside0.mk hq1
       clear hq1
       refine hK.out _ _ (((blk_cell HS1.out.blk 0).trans rfl)) (fun hHeld => ?_)
       clear hK K
       refine norm_ (a' := ?_) ?_ ?_
       rotate_left
       ·show Act.put _ (some 44) _ = _
        simp only [Act.put, List.setIfInBounds_toArray, List.set_cons_zero, List.set_cons_succ, i64_w, i32_w]
        rfl
       refine one_ (i := 6) (N := some 45) Bz21 rfl rfl (by kernel_rfl) (by decide) (fun K hK => ?_)
       refine value_ (w1 := ?_) (v := ?_) (by rfl) rfl ?_ ?_
       rotate_left 2
       ·go_simp
        constructor
        ·rfl
        ·rfl
       refine hK.out _ _ (((blk_cell (blk_alloc HS1.out.blk _) 0).trans rfl)) (fun hHeld => ?_)
       clear hK K
       refine norm_ (a' := ?_) ?_ ?_
       rotate_left
       ·show Act.put _ (some 45) _ = _
        simp only [Act.put, List.setIfInBounds_toArray, List.set_cons_zero, List.set_cons_succ, i64_w, i32_w]
        rfl
       refine last_ (i := 7) (N := some 46) Bz22 rfl rfl (by kernel_rfl) (by decide) (fun K hK => ?_)
       refine Kd.R_append_step Kd.string (w0 := w1) B (by rfl) (.tmp 42) (.tmp 45) 23 9 (.string ⟨#[]⟩) 16 (by rfl) Tryd.underlying23 info9 rfl (by decide) (by omega) v o (rdB y) [.string (rdB y)] (fun k => B ≤ k) (fun _ => False) (by rfl) (by rfl) rfl (fun _ h_ => h_.elim) (fun k hk => Nat.le_trans HS1.out.sz hk) HS1.out.cur (Below.refl _ _) HS1.out.sz HLN.out ?_
       intro v9 w5 hr9 hb9 hg9 hat9
       obtain ⟨A9, c9, rfl⟩ := Kd.R_slice hr9
       obtain ⟨n9, hn9⟩ : ∃ n9 : Nat, n9 = (o ++ [rdB y]).length := ⟨_, rfl⟩
       rw [← hn9] at hr9 hat9 ⊢
       have HN9 := Aside0.mk (MR.app HS1.out hr9 hb9 hg9 hat9 0 (cs' := #[(.slice A9 n9 c9), (.slice none 0 0), (.slice none 0 0), (.slice none 0 0)]) rfl)
       have HB9 := Aside0.mk hb9
       have hbk9 := (hb9.block _ HS1.out.lt).trans HS1.out.blk
       have hz := (blk_cell hbk9 0).trans rfl
       have hy := blk_frozen hbk9 0
       clear hr9 hb9 hat9 hg9 hn9 hbk9
       refine hK.out _ _ ?_
       clear hK K
       refine norm_ (a' := ?_) ?_ ?_
       rotate_left
       ·show Act.put _ (some 46) _ = _
        simp only [Act.put, List.setIfInBounds_toArray, List.set_cons_zero, List.set_cons_succ, i64_w, i32_w]
        rfl
       refine pu 8 47 Bz23 rfl rfl (by kernel_rfl) ?_
       refine last_ (i := 9) (N := none) Bz24 rfl rfl (by kernel_rfl) (by decide) (fun K hK => ?_)
       refine skip_ (w1 := ?_) (by rfl) rfl ?_ ?_
       rotate_left
       ·go_simp
        rfl
       refine hK.out _ _ ?_
       clear hK K
       refine done_ (by kernel_rfl) ?_
       obtain ⟨W9, hW9⟩ : ∃ W9, W9 = w5.setCell ⟨gW, 0, none⟩ (.slice A9 n9 c9) := ⟨_, rfl⟩
       rw [← hW9]
       have HST9 := Aside0.mk (show MR.St W9 gW B #[(.slice A9 n9 c9), (.slice none 0 0), (.slice none 0 0), (.slice none 0 0)] (.slice A9 n9 c9) f1 f2 (.slice AO out.length cO) (.slice (some ad) n17 c17) (o ++ [rdB y]) p1 p2 out (l0 ++ [(⟨#[]⟩ : ByteArray)]) by rw [hW9]; exact HN9.out)
       have HBL9 := Aside0.mk (show Below w.heap.size w W9 by
        rw [hW9]
        exact Below.setCell (p := ⟨gW, 0, none⟩) (Below.trans HBL.out (Below.trans (Below.mono (below_drew1 (Below.refl _ _)) (Below.size HBL.out)) (Below.trans (Below.mono HQ1.out (by have h_ := Below.size HBL.out; exact h_)) (Below.mono HB9.out (by have h_ := HST.out.lt; have h2_ := HGW.out; omega))))) (by have h2_ := HGW.out; exact Nat.le_of_eq h2_.symm) _)
       clear hW9 hz hy hbk0
       (try simp only [Exit.inBlock, Exit.then])
       go_wp2
       go_roundg (l0.length + 2 - (j + 1))
       case measure => have h_ := HJ.out.2.2; have h2_ := HLT.out; omega
       case rel => exact ⟨j + 1, 0, A1, m - 1, c' - 1, (.slice A9 n9 c9), f1, f2, o ++ [rdB y], p1, p2, out, _, rfl, rfl, (by have h_ := HLT.out; have h2_ := HBG.out; first | go_num | exact congrArg (Value.int .i64) (by rw [w64 (by omega)]; omega)), HJ1, ⟨.inl ⟨HLT.out, HN1.out⟩⟩, ⟨by simp⟩, ⟨by have h_ := HLO.out; rw [List.length_append]; simp; omega⟩, HST9, HBL9⟩
      ·have HN1 := Aside0.mk (show mark_Read.g (mr (l0.drop (j + 1)) 1 (o ++ [rdB y]) p1 p2 out) = some (r1, r2) by
        have h_ := HY.out
        unfold mr at h_
        rw [if_pos hk] at h_
        exact h_)
       have HLN := Aside0.mk (show (o.length + 1) * 16 ≤ 140737488355328 by have h_ := HLO.out.1; have h2_ := HLT.out; have h3_ := HBG.out; omega)
       have hbk0 := (blk_cell HST.out.blk 1).trans rfl
       clear hk
       go_upto_region 13 with fail
       clear hk1
       refine start_ (n := 10) (S := fun w' => w'.cell? ⟨gW, 1, none⟩ = some v) (ds := [7, 9]) Bz14 (by kernel_rfl) rfl rfl (((blk_cell (blk_drew HST.out.blk) 1).trans rfl)) (fun hHeld => ?_)
       refine pu 0 39 Bz15 rfl rfl (by kernel_rfl) ?_
       refine pu 1 40 Bz16 rfl rfl (by kernel_rfl) ?_
       refine pu 2 41 Bz17 rfl rfl (by kernel_rfl) ?_
       refine pu 4 43 Bz18 rfl rfl (by kernel_rfl) ?_
       refine take_ (i := 3) (N := some 42) (v := ?_) (a' := ?_) Bz19 rfl rfl (by kernel_rfl) (fun _ _ _ h => h) (Or.inl ⟨by rfl, ?_⟩) hHeld ?_ ?_
       rotate_left
       ·intro w' s0
        go_simp
        with_reducible rfl
       rotate_left
       ·simp only [Act.put, List.setIfInBounds_toArray, List.set_cons_zero, List.set_cons_succ, i64_w, i32_w]
        rfl
       refine one_ (i := 5) (N := some 44) Bz20 rfl rfl (by kernel_rfl) (by decide) (fun K hK => ?_)
       refine goes_ Tryd.func36 (by kernel_rfl) rfl #[.string y] (by rfl) rfl rfl (by simp only [List.map_toArray, List.map_cons, List.map_nil]; rfl) ?_
       with_reducible refine (mark_read.calls y (rdB y) _ HRD.out).mono ?_
       rintro e w1 ⟨rfl, hq1⟩
       refine ⟨_, rfl, ?_⟩
       have HS1 := Aside0.mk (MR.keep (MR.keep HST.out (below_drew1 (Below.refl _ _))) hq1)
       have HQ1 := Aside0.mk hq1
       clear hq1
       refine hK.out _ _ (((blk_cell HS1.out.blk 1).trans rfl)) (fun hHeld => ?_)
       clear hK K
       refine norm_ (a' := ?_) ?_ ?_
       rotate_left
       ·show Act.put _ (some 44) _ = _
        simp only [Act.put, List.setIfInBounds_toArray, List.set_cons_zero, List.set_cons_succ, i64_w, i32_w]
        rfl
       refine one_ (i := 6) (N := some 45) Bz21 rfl rfl (by kernel_rfl) (by decide) (fun K hK => ?_)
       refine value_ (w1 := ?_) (v := ?_) (by rfl) rfl ?_ ?_
       rotate_left 2
       ·go_simp
        constructor
        ·rfl
        ·rfl
       refine hK.out _ _ (((blk_cell (blk_alloc HS1.out.blk _) 1).trans rfl)) (fun hHeld => ?_)
       clear hK K
       refine norm_ (a' := ?_) ?_ ?_
       rotate_left
       ·show Act.put _ (some 45) _ = _
        simp only [Act.put, List.setIfInBounds_toArray, List.set_cons_zero, List.set_cons_succ, i64_w, i32_w]
        rfl
       refine last_ (i := 7) (N := some 46) Bz22 rfl rfl (by kernel_rfl) (by decide) (fun K hK => ?_)
       refine Kd.R_append_step Kd.string (w0 := w1) B (by rfl) (.tmp 42) (.tmp 45) 23 9 (.string ⟨#[]⟩) 16 (by rfl) Tryd.underlying23 info9 rfl (by decide) (by omega) v o (rdB y) [.string (rdB y)] (fun k => B ≤ k) (fun _ => False) (by rfl) (by rfl) rfl (fun _ h_ => h_.elim) (fun k hk => Nat.le_trans HS1.out.sz hk) HS1.out.cur (Below.refl _ _) HS1.out.sz HLN.out ?_
       intro v9 w5 hr9 hb9 hg9 hat9
       obtain ⟨A9, c9, rfl⟩ := Kd.R_slice hr9
       obtain ⟨n9, hn9⟩ : ∃ n9 : Nat, n9 = (o ++ [rdB y]).length := ⟨_, rfl⟩
       rw [← hn9] at hr9 hat9 ⊢
       have HN9 := Aside0.mk (MR.app HS1.out hr9 hb9 hg9 hat9 1 (cs' := #[(.slice none 0 0), (.slice A9 n9 c9), (.slice none 0 0), (.slice none 0 0)]) rfl)
       have HB9 := Aside0.mk hb9
       have hbk9 := (hb9.block _ HS1.out.lt).trans HS1.out.blk
       have hz := (blk_cell hbk9 1).trans rfl
       have hy := blk_frozen hbk9 1
       clear hr9 hb9 hat9 hg9 hn9 hbk9
       refine hK.out _ _ ?_
       clear hK K
       refine norm_ (a' := ?_) ?_ ?_
       rotate_left
       ·show Act.put _ (some 46) _ = _
        simp only [Act.put, List.setIfInBounds_toArray, List.set_cons_zero, List.set_cons_succ, i64_w, i32_w]
        rfl
       refine pu 8 47 Bz23 rfl rfl (by kernel_rfl) ?_
       refine last_ (i := 9) (N := none) Bz24 rfl rfl (by kernel_rfl) (by decide) (fun K hK => ?_)
       refine skip_ (w1 := ?_) (by rfl) rfl ?_ ?_
       rotate_left
       ·go_simp
        rfl
       refine hK.out _ _ ?_
       clear hK K
       refine done_ (by kernel_rfl) ?_
       obtain ⟨W9, hW9⟩ : ∃ W9, W9 = w5.setCell ⟨gW, 1, none⟩ (.slice A9 n9 c9) := ⟨_, rfl⟩
       rw [← hW9]
       have HST9 := Aside0.mk (show MR.St W9 gW B #[(.slice none 0 0), (.slice A9 n9 c9), (.slice none 0 0), (.slice none 0 0)] (.slice A9 n9 c9) f1 f2 (.slice AO out.length cO) (.slice (some ad) n17 c17) (o ++ [rdB y]) p1 p2 out (l0 ++ [(⟨#[]⟩ : ByteArray)]) by rw [hW9]; exact HN9.out)
       have HBL9 := Aside0.mk (show Below w.heap.size w W9 by
        rw [hW9]
        exact Below.setCell (p := ⟨gW, 1, none⟩) (Below.trans HBL.out (Below.trans (Below.mono (below_drew1 (Below.refl _ _)) (Below.size HBL.out)) (Below.trans (Below.mono HQ1.out (by have h_ := Below.size HBL.out; exact h_)) (Below.mono HB9.out (by have h_ := HST.out.lt; have h2_ := HGW.out; omega))))) (by have h2_ := HGW.out; exact Nat.le_of_eq h2_.symm) _)
       clear hW9 hz hy hbk0
       (try simp only [Exit.inBlock, Exit.then])
       go_wp2
       go_roundg (l0.length + 2 - (j + 1))
       case measure => have h_ := HJ.out.2.2; have h2_ := HLT.out; omega
       case rel => exact ⟨j + 1, 1, A1, m - 1, c' - 1, (.slice A9 n9 c9), f1, f2, o ++ [rdB y], p1, p2, out, _, rfl, rfl, (by have h_ := HLT.out; have h2_ := HBG.out; first | go_num | exact congrArg (Value.int .i64) (by rw [w64 (by omega)]; omega)), HJ1, ⟨.inl ⟨HLT.out, HN1.out⟩⟩, ⟨by simp⟩, ⟨by have h_ := HLO.out; rw [List.length_append]; simp; omega⟩, HST9, HBL9⟩
      ·have HN1 := Aside0.mk (show mark_Read.g (mr (l0.drop (j + 1)) 2 (o ++ [rdB y]) p1 p2 out) = some (r1, r2) by
        have h_ := HY.out
        unfold mr at h_
        rw [if_pos hk] at h_
        exact h_)
       have HLN := Aside0.mk (show (o.length + 1) * 16 ≤ 140737488355328 by have h_ := HLO.out.1; have h2_ := HLT.out; have h3_ := HBG.out; omega)
       have hbk0 := (blk_cell HST.out.blk 2).trans rfl
       clear hk
       go_upto_region 13 with fail
       clear hk1
       refine start_ (n := 10) (S := fun w' => w'.cell? ⟨gW, 2, none⟩ = some v) (ds := [7, 9]) Bz14 (by kernel_rfl) rfl rfl (((blk_cell (blk_drew HST.out.blk) 2).trans rfl)) (fun hHeld => ?_)
       refine pu 0 39 Bz15 rfl rfl (by kernel_rfl) ?_
       refine pu 1 40 Bz16 rfl rfl (by kernel_rfl) ?_
       refine pu 2 41 Bz17 rfl rfl (by kernel_rfl) ?_
       refine pu 4 43 Bz18 rfl rfl (by kernel_rfl) ?_
       refine take_ (i := 3) (N := some 42) (v := ?_) (a' := ?_) Bz19 rfl rfl (by kernel_rfl) (fun _ _ _ h => h) (Or.inl ⟨by rfl, ?_⟩) hHeld ?_ ?_
       rotate_left
       ·intro w' s0
        go_simp
        with_reducible rfl
       rotate_left
       ·simp only [Act.put, List.setIfInBounds_toArray, List.set_cons_zero, List.set_cons_succ, i64_w, i32_w]
        rfl
       refine one_ (i := 5) (N := some 44) Bz20 rfl rfl (by kernel_rfl) (by decide) (fun K hK => ?_)
       refine goes_ Tryd.func36 (by kernel_rfl) rfl #[.string y] (by rfl) rfl rfl (by simp only [List.map_toArray, List.map_cons, List.map_nil]; rfl) ?_
       with_reducible refine (mark_read.calls y (rdB y) _ HRD.out).mono ?_
       rintro e w1 ⟨rfl, hq1⟩
       refine ⟨_, rfl, ?_⟩
       have HS1 := Aside0.mk (MR.keep (MR.keep HST.out (below_drew1 (Below.refl _ _))) hq1)
       have HQ1 := Aside0.mk hq1
       clear hq1
       refine hK.out _ _ (((blk_cell HS1.out.blk 2).trans rfl)) (fun hHeld => ?_)
       clear hK K
       refine norm_ (a' := ?_) ?_ ?_
       rotate_left
       ·show Act.put _ (some 44) _ = _
        simp only [Act.put, List.setIfInBounds_toArray, List.set_cons_zero, List.set_cons_succ, i64_w, i32_w]
        rfl
       refine one_ (i := 6) (N := some 45) Bz21 rfl rfl (by kernel_rfl) (by decide) (fun K hK => ?_)
       refine value_ (w1 := ?_) (v := ?_) (by rfl) rfl ?_ ?_
       rotate_left 2
       ·go_simp
        constructor
        ·rfl
        ·rfl
       refine hK.out _ _ (((blk_cell (blk_alloc HS1.out.blk _) 2).trans rfl)) (fun hHeld => ?_)
       clear hK K
       refine norm_ (a' := ?_) ?_ ?_
       rotate_left
       ·show Act.put _ (some 45) _ = _
        simp only [Act.put, List.setIfInBounds_toArray, List.set_cons_zero, List.set_cons_succ, i64_w, i32_w]
        rfl
       refine last_ (i := 7) (N := some 46) Bz22 rfl rfl (by kernel_rfl) (by decide) (fun K hK => ?_)
       refine Kd.R_append_step Kd.string (w0 := w1) B (by rfl) (.tmp 42) (.tmp 45) 23 9 (.string ⟨#[]⟩) 16 (by rfl) Tryd.underlying23 info9 rfl (by decide) (by omega) v o (rdB y) [.string (rdB y)] (fun k => B ≤ k) (fun _ => False) (by rfl) (by rfl) rfl (fun _ h_ => h_.elim) (fun k hk => Nat.le_trans HS1.out.sz hk) HS1.out.cur (Below.refl _ _) HS1.out.sz HLN.out ?_
       intro v9 w5 hr9 hb9 hg9 hat9
       obtain ⟨A9, c9, rfl⟩ := Kd.R_slice hr9
       obtain ⟨n9, hn9⟩ : ∃ n9 : Nat, n9 = (o ++ [rdB y]).length := ⟨_, rfl⟩
       rw [← hn9] at hr9 hat9 ⊢
       have HN9 := Aside0.mk (MR.app HS1.out hr9 hb9 hg9 hat9 2 (cs' := #[(.slice none 0 0), f1, (.slice A9 n9 c9), (.slice none 0 0)]) rfl)
       have HB9 := Aside0.mk hb9
       have hbk9 := (hb9.block _ HS1.out.lt).trans HS1.out.blk
       have hz := (blk_cell hbk9 2).trans rfl
       have hy := blk_frozen hbk9 2
       clear hr9 hb9 hat9 hg9 hn9 hbk9
       refine hK.out _ _ ?_
       clear hK K
       refine norm_ (a' := ?_) ?_ ?_
       rotate_left
       ·show Act.put _ (some 46) _ = _
        simp only [Act.put, List.setIfInBounds_toArray, List.set_cons_zero, List.set_cons_succ, i64_w, i32_w]
        rfl
       refine pu 8 47 Bz23 rfl rfl (by kernel_rfl) ?_
       refine last_ (i := 9) (N := none) Bz24 rfl rfl (by kernel_rfl) (by decide) (fun K hK => ?_)
       refine skip_ (w1 := ?_) (by rfl) rfl ?_ ?_
       rotate_left
       ·go_simp
        rfl
       refine hK.out _ _ ?_
       clear hK K
       refine done_ (by kernel_rfl) ?_
       obtain ⟨W9, hW9⟩ : ∃ W9, W9 = w5.setCell ⟨gW, 2, none⟩ (.slice A9 n9 c9) := ⟨_, rfl⟩
       rw [← hW9]
       have HST9 := Aside0.mk (show MR.St W9 gW B #[(.slice none 0 0), f1, (.slice A9 n9 c9), (.slice none 0 0)] (.slice A9 n9 c9) f1 f2 (.slice AO out.length cO) (.slice (some ad) n17 c17) (o ++ [rdB y]) p1 p2 out (l0 ++ [(⟨#[]⟩ : ByteArray)]) by rw [hW9]; exact HN9.out)
       have HBL9 := Aside0.mk (show Below w.heap.size w W9 by
        rw [hW9]
        exact Below.setCell (p := ⟨gW, 2, none⟩) (Below.trans HBL.out (Below.trans (Below.mono (below_drew1 (Below.refl _ _)) (Below.size HBL.out)) (Below.trans (Below.mono HQ1.out (by have h_ := Below.size HBL.out; exact h_)) (Below.mono HB9.out (by have h_ := HST.out.lt; have h2_ := HGW.out; omega))))) (by have h2_ := HGW.out; exact Nat.le_of_eq h2_.symm) _)
       clear hW9 hz hy hbk0
       (try simp only [Exit.inBlock, Exit.then])
       go_wp2
       go_roundg (l0.length + 2 - (j + 1))
       case measure => have h_ := HJ.out.2.2; have h2_ := HLT.out; omega
       case rel => exact ⟨j + 1, 2, A1, m - 1, c' - 1, (.slice A9 n9 c9), f1, f2, o ++ [rdB y], p1, p2, out, _, rfl, rfl, (by have h_ := HLT.out; have h2_ := HBG.out; first | go_num | exact congrArg (Value.int .i64) (by rw [w64 (by omega)]; omega)), HJ1, ⟨.inl ⟨HLT.out, HN1.out⟩⟩, ⟨by simp⟩, ⟨by have h_ := HLO.out; rw [List.length_append]; simp; omega⟩, HST9, HBL9⟩
      ·have HN1 := Aside0.mk (show mark_Read.g (mr (l0.drop (j + 1)) 3 (o ++ [rdB y]) p1 p2 out) = some (r1, r2) by
        have h_ := HY.out
        unfold mr at h_
        rw [if_pos hk] at h_
        exact h_)
       have HLN := Aside0.mk (show (o.length + 1) * 16 ≤ 140737488355328 by have h_ := HLO.out.1; have h2_ := HLT.out; have h3_ := HBG.out; omega)
       have hbk0 := (blk_cell HST.out.blk 3).trans rfl
       clear hk
       go_upto_region 13 with fail
       clear hk1
       refine start_ (n := 10) (S := fun w' => w'.cell? ⟨gW, 3, none⟩ = some v) (ds := [7, 9]) Bz14 (by kernel_rfl) rfl rfl (((blk_cell (blk_drew HST.out.blk) 3).trans rfl)) (fun hHeld => ?_)
       refine pu 0 39 Bz15 rfl rfl (by kernel_rfl) ?_
       refine pu 1 40 Bz16 rfl rfl (by kernel_rfl) ?_
       refine pu 2 41 Bz17 rfl rfl (by kernel_rfl) ?_
       refine pu 4 43 Bz18 rfl rfl (by kernel_rfl) ?_
       refine take_ (i := 3) (N := some 42) (v := ?_) (a' := ?_) Bz19 rfl rfl (by kernel_rfl) (fun _ _ _ h => h) (Or.inl ⟨by rfl, ?_⟩) hHeld ?_ ?_
       rotate_left
       ·intro w' s0
        go_simp
        with_reducible rfl
       rotate_left
       ·simp only [Act.put, List.setIfInBounds_toArray, List.set_cons_zero, List.set_cons_succ, i64_w, i32_w]
        rfl
       refine one_ (i := 5) (N := some 44) Bz20 rfl rfl (by kernel_rfl) (by decide) (fun K hK => ?_)
       refine goes_ Tryd.func36 (by kernel_rfl) rfl #[.string y] (by rfl) rfl rfl (by simp only [List.map_toArray, List.map_cons, List.map_nil]; rfl) ?_
       with_reducible refine (mark_read.calls y (rdB y) _ HRD.out).mono ?_
       rintro e w1 ⟨rfl, hq1⟩
       refine ⟨_, rfl, ?_⟩
       have HS1 := Aside0.mk (MR.keep (MR.keep HST.out (below_drew1 (Below.refl _ _))) hq1)
       have HQ1 := Aside0.mk hq1
       clear hq1
       refine hK.out _ _ (((blk_cell HS1.out.blk 3).trans rfl)) (fun hHeld => ?_)
       clear hK K
       refine norm_ (a' := ?_) ?_ ?_
       rotate_left
       ·show Act.put _ (some 44) _ = _
        simp only [Act.put, List.setIfInBounds_toArray, List.set_cons_zero, List.set_cons_succ, i64_w, i32_w]
        rfl
       refine one_ (i := 6) (N := some 45) Bz21 rfl rfl (by kernel_rfl) (by decide) (fun K hK => ?_)
       refine value_ (w1 := ?_) (v := ?_) (by rfl) rfl ?_ ?_
       rotate_left 2
       ·go_simp
        constructor
        ·rfl
        ·rfl
       refine hK.out _ _ (((blk_cell (blk_alloc HS1.out.blk _) 3).trans rfl)) (fun hHeld => ?_)
       clear hK K
       refine norm_ (a' := ?_) ?_ ?_
       rotate_left
       ·show Act.put _ (some 45) _ = _
        simp only [Act.put, List.setIfInBounds_toArray, List.set_cons_zero, List.set_cons_succ, i64_w, i32_w]
        rfl
       refine last_ (i := 7) (N := some 46) Bz22 rfl rfl (by kernel_rfl) (by decide) (fun K hK => ?_)
       refine Kd.R_append_step Kd.string (w0 := w1) B (by rfl) (.tmp 42) (.tmp 45) 23 9 (.string ⟨#[]⟩) 16 (by rfl) Tryd.underlying23 info9 rfl (by decide) (by omega) v o (rdB y) [.string (rdB y)] (fun k => B ≤ k) (fun _ => False) (by rfl) (by rfl) rfl (fun _ h_ => h_.elim) (fun k hk => Nat.le_trans HS1.out.sz hk) HS1.out.cur (Below.refl _ _) HS1.out.sz HLN.out ?_
       intro v9 w5 hr9 hb9 hg9 hat9
       obtain ⟨A9, c9, rfl⟩ := Kd.R_slice hr9
       obtain ⟨n9, hn9⟩ : ∃ n9 : Nat, n9 = (o ++ [rdB y]).length := ⟨_, rfl⟩
       rw [← hn9] at hr9 hat9 ⊢
       have HN9 := Aside0.mk (MR.app HS1.out hr9 hb9 hg9 hat9 3 (cs' := #[(.slice none 0 0), f1, f2, (.slice A9 n9 c9)]) rfl)
       have HB9 := Aside0.mk hb9
       have hbk9 := (hb9.block _ HS1.out.lt).trans HS1.out.blk
       have hz := (blk_cell hbk9 3).trans rfl
       have hy := blk_frozen hbk9 3
       clear hr9 hb9 hat9 hg9 hn9 hbk9
       refine hK.out _ _ ?_
       clear hK K
       refine norm_ (a' := ?_) ?_ ?_
       rotate_left
       ·show Act.put _ (some 46) _ = _
        simp only [Act.put, List.setIfInBounds_toArray, List.set_cons_zero, List.set_cons_succ, i64_w, i32_w]
        rfl
       refine pu 8 47 Bz23 rfl rfl (by kernel_rfl) ?_
       refine last_ (i := 9) (N := none) Bz24 rfl rfl (by kernel_rfl) (by decide) (fun K hK => ?_)
       refine skip_ (w1 := ?_) (by rfl) rfl ?_ ?_
       rotate_left
       ·go_simp
        rfl
       refine hK.out _ _ ?_
       clear hK K
       refine done_ (by kernel_rfl) ?_
       obtain ⟨W9, hW9⟩ : ∃ W9, W9 = w5.setCell ⟨gW, 3, none⟩ (.slice A9 n9 c9) := ⟨_, rfl⟩
       rw [← hW9]
       have HST9 := Aside0.mk (show MR.St W9 gW B #[(.slice none 0 0), f1, f2, (.slice A9 n9 c9)] (.slice A9 n9 c9) f1 f2 (.slice AO out.length cO) (.slice (some ad) n17 c17) (o ++ [rdB y]) p1 p2 out (l0 ++ [(⟨#[]⟩ : ByteArray)]) by rw [hW9]; exact HN9.out)
       have HBL9 := Aside0.mk (show Below w.heap.size w W9 by
        rw [hW9]
        exact Below.setCell (p := ⟨gW, 3, none⟩) (Below.trans HBL.out (Below.trans (Below.mono (below_drew1 (Below.refl _ _)) (Below.size HBL.out)) (Below.trans (Below.mono HQ1.out (by have h_ := Below.size HBL.out; exact h_)) (Below.mono HB9.out (by have h_ := HST.out.lt; have h2_ := HGW.out; omega))))) (by have h2_ := HGW.out; exact Nat.le_of_eq h2_.symm) _)
       clear hW9 hz hy hbk0
       (try simp only [Exit.inBlock, Exit.then])
       go_wp2
       go_roundg (l0.length + 2 - (j + 1))
       case measure => have h_ := HJ.out.2.2; have h2_ := HLT.out; omega
       case rel => exact ⟨j + 1, 3, A1, m - 1, c' - 1, (.slice A9 n9 c9), f1, f2, o ++ [rdB y], p1, p2, out, _, rfl, rfl, (by have h_ := HLT.out; have h2_ := HBG.out; first | go_num | exact congrArg (Value.int .i64) (by rw [w64 (by omega)]; omega)), HJ1, ⟨.inl ⟨HLT.out, HN1.out⟩⟩, ⟨by simp⟩, ⟨by have h_ := HLO.out; rw [List.length_append]; simp; omega⟩, HST9, HBL9⟩
     ·have hk1 : decide (markN y < 0) = false := decide_eq_false hk
      by_cases hks : markN y = st
      ·have HNX0 := Aside0.mk (show mark_Read.g (if st = 0 then mr (l0.drop (j + 1)) 1 [] [] [] (kIf o out) else if st = 1 then mr (l0.drop (j + 1)) 2 [] o [] out else if st = 2 then mr (l0.drop (j + 1)) 3 [] p1 o out else mr (l0.drop (j + 1)) 0 [] [] [] (out ++ [⟨5, p2, p1, o⟩])) = some (r1, r2) by
        have h_ := HY.out
        unfold mr at h_
        rw [if_neg hk, if_neg (fun hn => hn hks)] at h_
        exact h_)
       rw [hks]
       rw [hks] at hk1
       clear hk hks HY HRD
       rcases HCS.out with ⟨rfl, rfl⟩ | ⟨rfl, rfl⟩ | ⟨rfl, rfl⟩ | ⟨rfl, rfl⟩
       ·have HNX := Aside0.mk (show mark_Read.g (mr (l0.drop (j + 1)) 1 [] [] [] (kIf o out)) = some (r1, r2) from HNX0.out)
        by_cases ho : o = []
        ·subst ho
         have hbk0 := (blk_cell HST.out.blk 0).trans rfl
         have hfz0 := blk_frozen HST.out.blk 0
         obtain ⟨Av, cv, rfl⟩ := Kd.R_slice HST.out.cur
         have HN1 := Aside0.mk (show mark_Read.g (mr (l0.drop (j + 1)) 1 [] [] [] (kIf [] out)) = some (r1, r2) from HNX.out)
         have HN9 := Aside0.mk (MR.next HST.out.blk HST.out.lt HST.out.sz (Kd.R_nil Kd.string 9 _ B _) (Kd.R_nil Kd.string 9 _ B _) (Kd.S_mono HST.out.ro (fun k hk => ⟨hk.1.1, nil_own k, nil_own k⟩)) HST.out.rl (cs' := #[.slice none 0 0, .slice none 0 0, .slice none 0 0, .slice none 0 0]) rfl)
         go_wp2
         obtain ⟨W9, hW9⟩ : ∃ W9, W9 = w7.setCell ⟨gW, 0, none⟩ (.slice none 0 0) := ⟨_, rfl⟩
         rw [← hW9]
         rw [← hW9] at HN9
         have HBL9 := Aside0.mk (show Below w.heap.size w W9 by rw [hW9]; exact Below.setCell (p := ⟨gW, 0, none⟩) HBL.out (by have h2_ := HGW.out; exact Nat.le_of_eq h2_.symm) _)
         clear hW9
         go_roundg (l0.length + 2 - (j + 1))
         case measure => have h_ := HJ.out.2.2; have h2_ := HLT.out; omega
         case rel => exact ⟨j + 1, 1, _, _, _, _, _, _, [], [], [], out, _, rfl, rfl, (by have h_ := HLT.out; have h2_ := HBG.out; first | go_num | exact congrArg (Value.int .i64) (by rw [w64 (by omega)]; omega)), HJ1, ⟨.inl ⟨HLT.out, HN1.out⟩⟩, ⟨.inr (.inl ⟨rfl, rfl⟩)⟩, ⟨by have h_ := HLO.out; simp; omega⟩, HN9, HBL9⟩
        ·have hol : 0 < o.length := List.length_pos_iff.2 ho
         have HKI := Aside0.mk (show kIf o out = out ++ [⟨1, o, o, o⟩] from if_pos hol)
         have hol0 : decide ((o.length : Int) > 0) = true := decide_eq_true (by omega)
         have hol1 : decide ((0 : Int) < (o.length : Int)) = true := hol0
         have hol2 : decide (0 < o.length) = true := decide_eq_true hol
         have hol3 : (0 < o.length) = True := eq_true hol
         obtain ⟨Av, cv, rfl⟩ := Kd.R_slice HST.out.cur
         have hbk0 := (blk_cell HST.out.blk 0).trans rfl
         have hfz0 := blk_frozen HST.out.blk 0
         have HN1 := Aside0.mk (show mark_Read.g (mr (l0.drop (j + 1)) 1 [] [] [] (kIf o out)) = some (r1, r2) from HNX.out)
         clear ho hol
         go_upto_region 17 with fail
         have HSD := Aside0.mk (MR.keep HST.out (below_drew1 (Below.refl _ _)))
         have HLN := Aside0.mk (show (out.length + 1) * 80 ≤ 140737488355328 by have h_ := HLO.out.2; have h2_ := HLT.out; have h3_ := HBG.out; omega)
         have HCO := Aside0.mk (mr_clone o (by have h_ := HLO.out.1; have h2_ := HLT.out; have h3_ := HBG.out; omega))
         refine start_ (n := 13) (S := fun w' => w'.cell? ⟨gW, 0, none⟩ = some (.slice Av o.length cv)) (ds := [11]) Bz0 (by kernel_rfl) rfl rfl (((blk_cell HSD.out.blk 0).trans rfl)) (fun hHeld => ?_)
         refine pu 0 70 Bz1 rfl rfl (by kernel_rfl) ?_
         refine pu 1 71 Bz2 rfl rfl (by kernel_rfl) ?_
         refine pu 3 73 Bz3 rfl rfl (by kernel_rfl) ?_
         refine pu 6 76 Bz4 rfl rfl (by kernel_rfl) ?_
         refine take_ (i := 2) (N := some 72) (v := ?_) (a' := ?_) Bz5 rfl rfl (by kernel_rfl) (fun _ _ _ h => h) (Or.inl ⟨by rfl, ?_⟩) hHeld ?_ ?_
         rotate_left
         ·intro w' s0
          go_simp
          with_reducible rfl
         rotate_left
         ·simp only [Act.put, List.setIfInBounds_toArray, List.set_cons_zero, List.set_cons_succ, i64_w, i32_w]
          rfl
         refine take_ (i := 4) (N := some 74) (v := ?_) (a' := ?_) Bz6 rfl rfl (by kernel_rfl) (fun _ _ _ h => h) (Or.inl ⟨by rfl, ?_⟩) hHeld ?_ ?_
         rotate_left
         ·intro w' s0
          go_simp
          with_reducible rfl
         rotate_left
         ·simp only [Act.put, List.setIfInBounds_toArray, List.set_cons_zero, List.set_cons_succ, i64_w, i32_w]
          rfl
         refine take_ (i := 7) (N := some 77) (v := ?_) (a' := ?_) Bz7 rfl rfl (by kernel_rfl) (fun _ _ _ h => h) (Or.inl ⟨by rfl, ?_⟩) hHeld ?_ ?_
         rotate_left
         ·intro w' s0
          go_simp
          with_reducible rfl
         rotate_left
         ·simp only [Act.put, List.setIfInBounds_toArray, List.set_cons_zero, List.set_cons_succ, i64_w, i32_w]
          rfl
         refine one_ (i := 5) (N := some 75) Bz8 rfl rfl (by kernel_rfl) (by decide) (fun K hK => ?_)
         refine goes_ Tryd.func34 (by kernel_rfl) rfl #[.slice Av o.length cv] (by rfl) rfl rfl (by simp only [List.map_toArray, List.map_cons, List.map_nil]; rfl) ?_
         with_reducible refine (slices_Clone.calls Av cv o o _ (Kd.R_reads' HSD.out.cur).2.2 (Kd.R_reads' HSD.out.cur).2.1 HCO.out).mono ?_
         rintro e w8 ⟨v3, rfl, hr8, hq8⟩
         refine ⟨_, rfl, ?_⟩
         obtain ⟨A3, c3, rfl⟩ := Kd.R_slice hr8
         have HS8 := Aside0.mk (MR.keep HSD.out hq8)
         have HV3 := Aside0.mk hr8
         have HQ8 := Aside0.mk hq8
         clear hr8 hq8
         refine hK.out _ _ (((blk_cell HS8.out.blk 0).trans rfl)) (fun hHeld => ?_)
         clear hK K
         refine norm_ (a' := ?_) ?_ ?_
         rotate_left
         ·show Act.put _ (some 75) _ = _
          simp only [Act.put, List.setIfInBounds_toArray, List.set_cons_zero, List.set_cons_succ, i64_w, i32_w]
          rfl
         refine one_ (i := 8) (N := some 78) Bz9 rfl rfl (by kernel_rfl) (by decide) (fun K hK => ?_)
         refine goes_ Tryd.func34 (by kernel_rfl) rfl #[.slice Av o.length cv] (by rfl) rfl rfl (by simp only [List.map_toArray, List.map_cons, List.map_nil]; rfl) ?_
         with_reducible refine (slices_Clone.calls Av cv o o _ (Kd.R_reads' HS8.out.cur).2.2 (Kd.R_reads' HS8.out.cur).2.1 HCO.out).mono ?_
         rintro e w9 ⟨v4, rfl, hr9, hq9⟩
         refine ⟨_, rfl, ?_⟩
         obtain ⟨A4, c4, rfl⟩ := Kd.R_slice hr9
         have HS9 := Aside0.mk (MR.keep HS8.out hq9)
         have HV4 := Aside0.mk hr9
         have HV3b := Aside0.mk (Kd.R_below HV3.out hq9)
         have HQ9 := Aside0.mk hq9
         clear hr9 hq9
         refine hK.out _ _ (((blk_cell HS9.out.blk 0).trans rfl)) (fun hHeld => ?_)
         clear hK K
         refine norm_ (a' := ?_) ?_ ?_
         rotate_left
         ·show Act.put _ (some 78) _ = _
          simp only [Act.put, List.setIfInBounds_toArray, List.set_cons_zero, List.set_cons_succ, i64_w, i32_w]
          rfl
         refine pu 9 79 Bz10 rfl rfl (by kernel_rfl) ?_
         refine one_ (i := 10) (N := some 80) Bz11 rfl rfl (by kernel_rfl) (by decide) (fun K hK => ?_)
         refine value_ (w1 := ?_) (v := ?_) (by rfl) rfl ?_ ?_
         rotate_left 2
         ·go_simp
          constructor
          ·rfl
          ·rfl
         refine hK.out _ _ (((blk_cell (blk_alloc HS9.out.blk _) 0).trans rfl)) (fun hHeld => ?_)
         clear hK K
         refine norm_ (a' := ?_) ?_ ?_
         rotate_left
         ·show Act.put _ (some 80) _ = _
          simp only [Act.put, List.setIfInBounds_toArray, List.set_cons_zero, List.set_cons_succ, i64_w, i32_w]
          rfl
         refine last_ (i := 11) (N := some 81) Bz12 rfl rfl (by kernel_rfl) (by decide) (fun K hK => ?_)
         have HOK := Aside0.mk (MR.keptM HS9.out HSD.out.sz (Below.size HQ8.out) HV3b.out HV4.out (Kd.S_below (Kd.S_below (Kd.S_mono (Kd.S_bound HSD.out.ro) (fun k hk => ⟨⟨hk.1.1.1, hk.2.2.1⟩, hk.1.2⟩)) HQ8.out) HQ9.out))
         refine Kd.S_append_step k43 (w0 := w9) B (by rfl) (.tmp 70) (.tmp 80) 22 43 (.agg #[.int .u8 0, .slice none 0 0, .slice none 0 0, .slice none 0 0]) 80 (by rfl) Tryd.underlying22 info43 rfl (by decide) (by omega) (.slice AO out.length cO) out ⟨1, o, o, o⟩ [.int .u8 1, .slice Av o.length cv, .slice A3 o.length c3, .slice A4 o.length c4] (fun k => B ≤ k) (fun k => some k = (Value.slice Av o.length cv).ownBlock ∨ w7.drew.heap.size ≤ k) (by rfl) (by rfl) HOK.out.1 HOK.out.2.1 (fun k hk => Nat.le_trans HS9.out.sz hk) HOK.out.2.2 (Below.refl _ _) HS9.out.sz HLN.out ?_
         intro v9 w5 hs9 hb9 hg9 hat9
         obtain ⟨A9, c9, rfl⟩ := Kd.S_slice hs9
         obtain ⟨o9, ho9⟩ : ∃ o9, o9 = out ++ [⟨1, o, o, o⟩] := ⟨_, rfl⟩
         rw [← ho9] at hs9 ⊢
         have HO9 := Aside0.mk ho9
         have HS5 := Aside0.mk hs9
         have HB5 := Aside0.mk hb9
         clear hs9 hb9 hg9 hat9 ho9
         refine hK.out _ _ ?_
         clear hK K
         refine norm_ (a' := ?_) ?_ ?_
         rotate_left
         ·show Act.put _ (some 81) _ = _
          simp only [Act.put, List.setIfInBounds_toArray, List.set_cons_zero, List.set_cons_succ, i64_w, i32_w]
          rfl
         refine pu 12 4 Bz13 rfl rfl (by kernel_rfl) ?_
         refine done_ (by kernel_rfl) ?_
         have HSE := Aside0.mk (show kIf o out = o9 by rw [HKI.out, HO9.out])
         have hbk5 := (HB5.out.block _ HS9.out.lt).trans HS9.out.blk
         have hbk1 := (blk_cell hbk5 0).trans rfl
         have hfz1 := blk_frozen hbk5 0
         have HN9 := Aside0.mk (MR.next hbk5 HST.out.lt (Nat.le_trans HS9.out.sz (Below.size HB5.out)) (Kd.R_nil Kd.string 9 _ B _) (Kd.R_nil Kd.string 9 _ B _) (Kd.S_mono HS5.out (fun k hk => ⟨hk, nil_own k, nil_own k⟩)) (Kd.R_step HS9.out.rl (fun k hk _ => HB5.out.block k hk.2)) (cs' := #[.slice none 0 0, .slice none 0 0, .slice none 0 0, .slice none 0 0]) rfl)
         have HBL5 := Aside0.mk (show Below w.heap.size w w5 by
          have h1_ := Below.size HBL.out
          have h2_ := Below.size HQ8.out
          refine Below.trans HBL.out (Below.trans (Below.mono (below_drew1 (Below.refl _ _)) h1_) (Below.trans (Below.mono HQ8.out h1_) (Below.trans (Below.mono HQ9.out (Nat.le_trans h1_ h2_)) (Below.mono HB5.out (by have h3_ := HST.out.lt; have h4_ := HGW.out; omega))))))
         clear hbk0 hbk5 hfz0
         (try simp only [Exit.inBlock, Exit.then])
         go_wp2
         obtain ⟨W9, hW9⟩ : ∃ W9, W9 = w5.setCell ⟨gW, 0, none⟩ (.slice none 0 0) := ⟨_, rfl⟩
         rw [← hW9]
         rw [← hW9] at HN9
         have HBL9 := Aside0.mk (show Below w.heap.size w W9 by rw [hW9]; exact Below.setCell (p := ⟨gW, 0, none⟩) HBL5.out (by have h2_ := HGW.out; exact Nat.le_of_eq h2_.symm) _)
         have HN2 := Aside0.mk (show mark_Read.g (mr (l0.drop (j + 1)) 1 [] [] [] o9) = some (r1, r2) by rw [← HSE.out]; exact HN1.out)
         have HLO9 := Aside0.mk (show ([] : List ByteArray).length ≤ j + 1 ∧ o9.length ≤ j + 1 by have h_ := HLO.out; rw [HO9.out, List.length_append]; simp; omega)
         clear hW9
         go_roundg (l0.length + 2 - (j + 1))
         case measure => have h_ := HJ.out.2.2; have h2_ := HLT.out; omega
         case rel => exact ⟨j + 1, 1, _, _, _, _, _, _, [], [], [], o9, _, rfl, rfl, (by have h_ := HLT.out; have h2_ := HBG.out; first | go_num | exact congrArg (Value.int .i64) (by rw [w64 (by omega)]; omega)), HJ1, ⟨.inl ⟨HLT.out, HN2.out⟩⟩, ⟨.inr (.inl ⟨rfl, rfl⟩)⟩, HLO9, HN9, HBL9⟩
       ·have HN1 := Aside0.mk (show mark_Read.g (mr (l0.drop (j + 1)) 2 [] o [] out) = some (r1, r2) from HNX0.out)
        have hbk0 := (blk_cell HST.out.blk 0).trans rfl
        have hfz0 := blk_frozen HST.out.blk 0
        have HN9 := Aside0.mk (MR.next HST.out.blk HST.out.lt HST.out.sz HST.out.cur (Kd.R_nil Kd.string 9 _ B _) (Kd.S_mono HST.out.ro (fun k hk => ⟨hk.1.1, hk.2, nil_own k⟩)) HST.out.rl (cs' := #[.slice none 0 0, v, .slice none 0 0, .slice none 0 0]) rfl)
        go_wp2
        obtain ⟨W9, hW9⟩ : ∃ W9, W9 = w7.setCell ⟨gW, 0, none⟩ (.slice none 0 0) := ⟨_, rfl⟩
        rw [← hW9]
        rw [← hW9] at HN9
        have HBL9 := Aside0.mk (show Below w.heap.size w W9 by rw [hW9]; exact Below.setCell (p := ⟨gW, 0, none⟩) HBL.out (by have h2_ := HGW.out; exact Nat.le_of_eq h2_.symm) _)
        clear hW9
        go_roundg (l0.length + 2 - (j + 1))
        case measure => have h_ := HJ.out.2.2; have h2_ := HLT.out; omega
        case rel => exact ⟨j + 1, 2, _, _, _, _, _, _, [], o, [], out, _, rfl, rfl, (by have h_ := HLT.out; have h2_ := HBG.out; first | go_num | exact congrArg (Value.int .i64) (by rw [w64 (by omega)]; omega)), HJ1, ⟨.inl ⟨HLT.out, HN1.out⟩⟩, ⟨.inr (.inr (.inl ⟨rfl, rfl⟩))⟩, ⟨by have h_ := HLO.out; simp; omega⟩, HN9, HBL9⟩
       ·have HN1 := Aside0.mk (show mark_Read.g (mr (l0.drop (j + 1)) 3 [] p1 o out) = some (r1, r2) from HNX0.out)
        have hbk0 := (blk_cell HST.out.blk 0).trans rfl
        have hfz0 := blk_frozen HST.out.blk 0
        have HN9 := Aside0.mk (MR.next HST.out.blk HST.out.lt HST.out.sz (Kd.R_mono HST.out.r1 (fun k hk => hk.1)) HST.out.cur (Kd.S_mono HST.out.ro (fun k hk => ⟨hk.1.1, hk.1.2.1, hk.2⟩)) HST.out.rl (cs' := #[.slice none 0 0, f1, v, .slice none 0 0]) rfl)
        go_wp2
        obtain ⟨W9, hW9⟩ : ∃ W9, W9 = w7.setCell ⟨gW, 0, none⟩ (.slice none 0 0) := ⟨_, rfl⟩
        rw [← hW9]
        rw [← hW9] at HN9
        have HBL9 := Aside0.mk (show Below w.heap.size w W9 by rw [hW9]; exact Below.setCell (p := ⟨gW, 0, none⟩) HBL.out (by have h2_ := HGW.out; exact Nat.le_of_eq h2_.symm) _)
        clear hW9
        go_roundg (l0.length + 2 - (j + 1))
        case measure => have h_ := HJ.out.2.2; have h2_ := HLT.out; omega
        case rel => exact ⟨j + 1, 3, _, _, _, _, _, _, [], p1, o, out, _, rfl, rfl, (by have h_ := HLT.out; have h2_ := HBG.out; first | go_num | exact congrArg (Value.int .i64) (by rw [w64 (by omega)]; omega)), HJ1, ⟨.inl ⟨HLT.out, HN1.out⟩⟩, ⟨.inr (.inr (.inr ⟨rfl, rfl⟩))⟩, ⟨by have h_ := HLO.out; simp; omega⟩, HN9, HBL9⟩
       ·have HN1 := Aside0.mk (show mark_Read.g (mr (l0.drop (j + 1)) 0 [] [] [] (out ++ [⟨5, p2, p1, o⟩])) = some (r1, r2) from HNX0.out)
        obtain ⟨Av, cv, rfl⟩ := Kd.R_slice HST.out.cur
        obtain ⟨Af1, cf1, rfl⟩ := Kd.R_slice HST.out.r1
        obtain ⟨Af2, cf2, rfl⟩ := Kd.R_slice HST.out.r2
        have hbk1 := (blk_cell HST.out.blk 1).trans rfl
        have hbk2 := (blk_cell HST.out.blk 2).trans rfl
        have hbk3 := (blk_cell HST.out.blk 3).trans rfl
        have HCM := Aside0.mk (MR.clashM HST.out)
        have HLN := Aside0.mk (show (out.length + 1) * 80 ≤ 140737488355328 by have h_ := HLO.out.2; have h2_ := HLT.out; have h3_ := HBG.out; omega)
        go_upto_region 20 with ((with_reducible refine gate_builtin (b := .append) (xs := #[.tmp 84, .tmp 92]) rfl ?_); at_builtin; refine Kd.S_append k43 (w0 := w7) B rfl (.tmp 84) (.tmp 92) 22 43 (.agg #[.int .u8 0, .slice none 0 0, .slice none 0 0, .slice none 0 0]) 80 rfl Tryd.underlying22 info43 rfl (by decide) (by omega) (.slice AO out.length cO) out ⟨5, p2, p1, o⟩ [.int .u8 5, .slice Af2 p2.length cf2, .slice Af1 p1.length cf1, .slice Av o.length cv] (fun k => B ≤ k) (fun k => some k = (Value.slice Av o.length cv).ownBlock ∨ some k = (Value.slice Af1 p1.length cf1).ownBlock ∨ some k = (Value.slice Af2 p2.length cf2).ownBlock) rfl rfl HCM.out.1 HCM.out.2.1 (fun k hk => Nat.le_trans HST.out.sz hk) HCM.out.2.2 (Below.refl _ _) HST.out.sz HLN.out ?_; intro v9 w5 hs9 hb9 hg9 hat9; obtain ⟨A9, c9, rfl⟩ := Kd.S_slice hs9; obtain ⟨o9, ho9⟩ : ∃ o9, o9 = out ++ [⟨5, p2, p1, o⟩] := ⟨_, rfl⟩; rw [← ho9] at hs9 ⊢; have HO9 := Aside0.mk ho9; have HS5 := Aside0.mk hs9; have HB5 := Aside0.mk hb9; clear hs9 hb9 hg9 hat9 ho9)
        have hbk5 := (HB5.out.block _ HST.out.lt).trans HST.out.blk
        have cz0 := (blk_cell hbk5 0).trans rfl
        have cz1 := (blk_cell hbk5 1).trans rfl
        have cz2 := (blk_cell hbk5 2).trans rfl
        have cz3 := (blk_cell hbk5 3).trans rfl
        have fz0 := blk_frozen hbk5 0
        have fz1 := blk_frozen hbk5 1
        have fz2 := blk_frozen hbk5 2
        have fz3 := blk_frozen hbk5 3
        clear hbk1 hbk2 hbk3
        go_upto_region 21 with fail
        obtain ⟨W6, hW6⟩ : ∃ W6, W6 = (((w5.setCell ⟨gW, 0, none⟩ (.slice none 0 0)).setCell ⟨gW, 1, none⟩ (.slice none 0 0)).setCell ⟨gW, 2, none⟩ (.slice none 0 0)).setCell ⟨gW, 3, none⟩ (.slice none 0 0) := ⟨_, rfl⟩
        rw [← hW6]
        have hbk6 : W6.heap[gW]? = some (.cells #[(.slice none 0 0), (.slice none 0 0), (.slice none 0 0), (.slice none 0 0)] 56 (0, 0)) := by rw [hW6]; exact blk_put (blk_put (blk_put (blk_put hbk5 0 _ rfl) 1 _ rfl) 2 _ rfl) 3 _ rfl
        have far : ∀ k, B ≤ k → k ≠ gW := fun k hk he => by have := HST.out.lt; omega
        have far2 : ∀ k, gW < k → k ≠ gW := fun k hk he => by omega
        have HS6 := Aside0.mk (show Kd.S k43 43 W6 B (fun k => B ≤ k) (.slice A9 o9.length c9) o9 by rw [hW6]; exact Kd.S_far (Kd.S_far (Kd.S_far (Kd.S_far HS5.out (fun k hk => far k hk) _) (fun k hk => far k hk) _) (fun k hk => far k hk) _) (fun k hk => far k hk) _)
        have HL6 := Aside0.mk (show Kd.R Kd.string 9 W6 (gW + 1) (fun k => gW < k ∧ k < B) (.slice (some ad) n17 c17) (l0 ++ [(⟨#[]⟩ : ByteArray)]) by rw [hW6]; exact Kd.R_far (Kd.R_far (Kd.R_far (Kd.R_far (Kd.R_step HST.out.rl (fun k hk _ => HB5.out.block k hk.2)) (fun k hk => far2 k hk.1) _) (fun k hk => far2 k hk.1) _) (fun k hk => far2 k hk.1) _) (fun k hk => far2 k hk.1) _)
        have HZ6 := Aside0.mk (show B ≤ W6.heap.size by rw [hW6]; have h_ := Nat.le_trans HST.out.sz (Below.size HB5.out); simpa using h_)
        have HGL := Aside0.mk (show w.heap.size ≤ gW by have h2_ := HGW.out; exact Nat.le_of_eq h2_.symm)
        have HBL6 := Aside0.mk (show Below w.heap.size w W6 by
         rw [hW6]
         exact Below.setCell (p := ⟨gW, 3, none⟩) (Below.setCell (p := ⟨gW, 2, none⟩) (Below.setCell (p := ⟨gW, 1, none⟩) (Below.setCell (p := ⟨gW, 0, none⟩) (Below.trans HBL.out (Below.mono HB5.out (by have h3_ := HST.out.lt; have h4_ := HGW.out; omega))) HGL.out _) HGL.out _) HGL.out _) HGL.out _)
        have HN9 := Aside0.mk (MR.next hbk6 HST.out.lt HZ6.out (Kd.R_nil Kd.string 9 _ B _) (Kd.R_nil Kd.string 9 _ B _) (Kd.S_mono HS6.out (fun k hk => ⟨hk, nil_own k, nil_own k⟩)) HL6.out (cs' := #[(.slice none 0 0), (.slice none 0 0), (.slice none 0 0), (.slice none 0 0)]) rfl)
        have hbk0 := (blk_cell hbk6 0).trans rfl
        have hfz0 := blk_frozen hbk6 0
        clear hW6 far far2 hbk5 hbk6 cz0 cz1 cz2 cz3 fz0 fz1 fz2 fz3
        go_wp2
        obtain ⟨W9, hW9⟩ : ∃ W9, W9 = W6.setCell ⟨gW, 0, none⟩ (.slice none 0 0) := ⟨_, rfl⟩
        rw [← hW9]
        rw [← hW9] at HN9
        have HBL9 := Aside0.mk (show Below w.heap.size w W9 by rw [hW9]; exact Below.setCell (p := ⟨gW, 0, none⟩) HBL6.out HGL.out _)
        have HN2 := Aside0.mk (show mark_Read.g (mr (l0.drop (j + 1)) 0 [] [] [] o9) = some (r1, r2) by rw [HO9.out]; exact HN1.out)
        have HLO9 := Aside0.mk (show ([] : List ByteArray).length ≤ j + 1 ∧ o9.length ≤ j + 1 by have h_ := HLO.out; rw [HO9.out, List.length_append]; simp; omega)
        clear hW9
        go_roundg (l0.length + 2 - (j + 1))
        case measure => have h_ := HJ.out.2.2; have h2_ := HLT.out; omega
        case rel => exact ⟨j + 1, 0, _, _, _, _, _, _, [], [], [], o9, _, rfl, rfl, (by have h_ := HLT.out; have h2_ := HBG.out; first | go_num | exact congrArg (Value.int .i64) (by rw [w64 (by omega)]; omega)), HJ1, ⟨.inl ⟨HLT.out, HN2.out⟩⟩, ⟨.inl ⟨rfl, rfl⟩⟩, HLO9, HN9, HBL9⟩
      ·have hg : mark_Read.g none = some (r1, r2) := by
        have h_ := HY.out
        unfold mr at h_
        rw [if_neg hk, if_pos hks] at h_
        exact h_
       obtain ⟨rfl, rfl⟩ := Prod.mk.inj (Option.some.inj hg)
       have ks1 : (markN y == st) = false := beq_eq_false_iff_ne.2 hks
       clear hg hk hks HY HRD
       go_wp2
       go_ret2
       exact ⟨_, rfl, Kd.S_nil _ _ _ _ _, HBL.out⟩
end Go.Proofs.YtpklfaglenkdaaaDoor.Pr
end
section
namespace Go.Proofs.YtpklfaglenkdaaaDoor.Pr
open Go.RowKit Go.Proofs.YtpklfaglenkdaaaDoorW.PrintWords Go.Proofs.YtpklfaglenkdaaaDoorW.PrintLast Go.Proofs.YtpklfaglenkdaaaDoorW.PrintMore
attribute [local go_sem] max2_int min2_int max_two min_two max_three min_three max_four min_four   
def sidingref19_before.f (k : Nat) (a0 : ByteArray) : Option (ByteArray) := if (a0.size : Int) > 0 then (if 0 < (a0.size : Int) then (if (bt a0 0) = 92 then ((sidingref19_bare.f k a0).bind fun t409 => ((sidingref19_Mark.f t409).bind fun t410 => (if t410 ≥ 0 then (if 1 ≤ (a0.size : Int) then (some (a0.extract 1 a0.size)) else (none)) else (some a0)))) else (some a0)) else (none)) else (some a0)
set_option maxHeartbeats 8000000 in
set_option maxRecDepth 100000 in
theorem sidingref19_before.calls (k : Nat) (a0 : ByteArray) (r : ByteArray) (w : World) (h : sidingref19_before.f k a0 = some r) :
  Calls Tryd.prog 53 #[.string a0] w fun e w' => e = .returned (.string r) ∧ Drawn0 w w' := by
 have H : (if (a0.size : Int) > 0 then (if 0 < (a0.size : Int) then (if (bt a0 0) = 92 then ((sidingref19_bare.f k a0).bind fun t409 => ((sidingref19_Mark.f t409).bind fun t410 => (if t410 ≥ 0 then (if 1 ≤ (a0.size : Int) then (some (a0.extract 1 a0.size)) else (none)) else (some a0)))) else (some a0)) else (none)) else (some a0)) = some r := h
 clear h
 by_cases c2 : (a0.size : Int) > 0
 ·rw [if_pos c2] at H
  have c2b0 : decide (0 < (a0.size : Int)) = true := decide_eq_true c2
  have c2b1 : decide (0 < a0.size) = true := decide_eq_true (by omega)
  clear c2
  by_cases c3 : 0 < (a0.size : Int)
  ·rw [if_pos c3] at H
   have c3b0 : decide (0 < (a0.size : Int)) = true := decide_eq_true c3
   have c3b1 : decide (0 < a0.size) = true := decide_eq_true (by omega)
   clear c3
   by_cases c5 : (bt a0 0) = 92
   ·rw [if_pos c5] at H
    have c5b0 : ((bt a0 0) == 92) = true := beq_iff_eq.mpr c5
    have c5b1 : ((bt a0 0) != 92) = false := bne_eq_false_iff_eq.mpr c5
    clear c5
    replace H := Option.bind_eq_some_iff.mp H
    obtain ⟨t409, A60, H⟩ := H
    replace H : ((sidingref19_Mark.f t409).bind fun t410 => (if t410 ≥ 0 then (if 1 ≤ (a0.size : Int) then (some (a0.extract 1 a0.size)) else (none)) else (some a0))) = some r := H
    have A6 := Aside0.mk A60
    clear A60
    replace H := Option.bind_eq_some_iff.mp H
    obtain ⟨t410, A70, H⟩ := H
    replace H : (if t410 ≥ 0 then (if 1 ≤ (a0.size : Int) then (some (a0.extract 1 a0.size)) else (none)) else (some a0)) = some r := H
    have A7 := Aside0.mk A70
    clear A70
    by_cases c8 : t410 ≥ 0
    ·rw [if_pos c8] at H
     have c8b0 : decide (0 ≤ t410) = true := decide_eq_true c8
     clear c8
     by_cases c9 : 1 ≤ (a0.size : Int)
     ·rw [if_pos c9] at H
      have c9b0 := eq_true c9
      have c9b1 : decide (1 ≤ (a0.size : Int)) = true := decide_eq_true c9
      clear c9
      obtain rfl := Option.some.inj H
      have p4 : 0 ≤ (0 : Int) := (by omega)
      have q4 : 0 < a0.size := (by have : (0 : Int) < (a0.size : Int) := of_decide_eq_true (by first | (with_reducible assumption) | assumption); omega)
      have hx4 : ∀ h : 0 < a0.size, ((a0[0]'h).toNat : Int) = bt a0 0 := bt_at a0 0
      clear p4
      have qi4 : (0 < (a0.size : Int)) = True := eq_true (of_decide_eq_true (by first | (with_reducible assumption) | assumption))
      replace q4 := eq_true q4
      go_enter Tryd.func53, Tryd.ntmps53
      go_wp2_with (first | (go_at_call 71; (with_reducible refine (sidingref19_bare.calls k a0 t409 _ A6.out).mono ?_); rintro e w' ⟨rfl, ⟨nd, rfl⟩⟩) | (go_at_call 26; (with_reducible refine (sidingref19_Mark.calls t409 t410 _ A7.out).mono ?_); rintro e w' ⟨rfl, ⟨nd, rfl⟩⟩))
      go_ret
      exact ⟨by first | rfl | (simp; done) | (simp [*]; done), by repeat (first | exact Drawn0.refl _ | apply Drawn0.step)⟩
     ·rw [if_neg c9] at H
      exact absurd H (by simp)
    ·rw [if_neg c8] at H
     have c8b0 : decide (0 ≤ t410) = false := decide_eq_false c8
     clear c8
     obtain rfl := Option.some.inj H
     have p4 : 0 ≤ (0 : Int) := (by omega)
     have q4 : 0 < a0.size := (by have : (0 : Int) < (a0.size : Int) := of_decide_eq_true (by first | (with_reducible assumption) | assumption); omega)
     have hx4 : ∀ h : 0 < a0.size, ((a0[0]'h).toNat : Int) = bt a0 0 := bt_at a0 0
     clear p4
     have qi4 : (0 < (a0.size : Int)) = True := eq_true (of_decide_eq_true (by first | (with_reducible assumption) | assumption))
     replace q4 := eq_true q4
     go_enter Tryd.func53, Tryd.ntmps53
     go_wp2_with (first | (go_at_call 71; (with_reducible refine (sidingref19_bare.calls k a0 t409 _ A6.out).mono ?_); rintro e w' ⟨rfl, ⟨nd, rfl⟩⟩) | (go_at_call 26; (with_reducible refine (sidingref19_Mark.calls t409 t410 _ A7.out).mono ?_); rintro e w' ⟨rfl, ⟨nd, rfl⟩⟩))
     go_ret
     exact ⟨by first | rfl | (simp; done) | (simp [*]; done), by repeat (first | exact Drawn0.refl _ | apply Drawn0.step)⟩
   ·rw [if_neg c5] at H
    have c5b0 : ((bt a0 0) == 92) = false := beq_eq_false_iff_ne.mpr c5
    have c5b1 : ((bt a0 0) != 92) = true := bne_iff_ne.mpr c5
    obtain rfl := Option.some.inj H
    have p4 : 0 ≤ (0 : Int) := (by omega)
    have q4 : 0 < a0.size := (by have : (0 : Int) < (a0.size : Int) := of_decide_eq_true (by first | (with_reducible assumption) | assumption); omega)
    have hx4 : ∀ h : 0 < a0.size, ((a0[0]'h).toNat : Int) = bt a0 0 := bt_at a0 0
    clear p4
    have qi4 : (0 < (a0.size : Int)) = True := eq_true (of_decide_eq_true (by first | (with_reducible assumption) | assumption))
    replace q4 := eq_true q4
    go_enter Tryd.func53, Tryd.ntmps53
    go_wp2
    go_ret
    exact ⟨by first | rfl | (simp; done) | (simp [*]; done), by repeat (first | exact Drawn0.refl _ | apply Drawn0.step)⟩
  ·rw [if_neg c3] at H
   exact absurd H (by simp)
 ·rw [if_neg c2] at H
  have c2b0 : decide (0 < (a0.size : Int)) = false := decide_eq_false c2
  have c2b1 : decide (0 < a0.size) = false := decide_eq_false (by omega)
  clear c2
  obtain rfl := Option.some.inj H
  go_enter Tryd.func53, Tryd.ntmps53
  go_wp2
  go_ret
  exact ⟨by first | rfl | (simp; done) | (simp [*]; done), by repeat (first | exact Drawn0.refl _ | apply Drawn0.step)⟩
end Go.Proofs.YtpklfaglenkdaaaDoor.Pr
end
