import Derived.Test.YtmbpjjdaklpemaaDoorLxZ
namespace Go.Proofs.YtmbpjjdaklpemaaDoor.Pure
open Go.RowKit Go.Proofs.YtmbpjjdaklpemaaDoor.Px Go.Proofs.YtmbpjjdaklpemaaDoorW.PrintWords Go.Proofs.YtmbpjjdaklpemaaDoorW.PrintLast Go.Proofs.YtmbpjjdaklpemaaDoor.Lx
theorem ref_loop (s : ByteArray) (hs : s.size ≤ 20000) (full : List Tok × Option (Int × Nat)) (d : Nat) : ∀ (i : Nat) (xs : List STok), Rst s full i xs → i ≤ s.size → s.size ≤ i + d →
    Ev (fun k => observatoryref08_Lex.l0 k s xs (i : Int)) (lexR full) := by
  have hout : ∀ (i : Nat) (xs : List STok), Rst s full i xs → ¬ i < s.size → i ≤ s.size → Ev (fun k => observatoryref08_Lex.l0 k s xs (i : Int)) (lexR full) := by
    intro i xs hR hi hle
    obtain rfl : i = s.size := by omega
    rw [Rst.fin hR]
    refine Ev.step (f := fun _ => some _) (fun k => ?_) (Ev.now _)
    simp only [observatoryref08_Lex.l0]
    rw [if_neg (by omega)]
  induction d with
  | zero => intro i xs hR h1 h2; exact hout i xs hR (by omega) h1
  | succ d ih =>
    intro i xs hR h1 h2
    by_cases hlt : i < s.size
    · have hi1 : (i : Int) < (s.size : Int) := by omega
      have hN := next_ev (s := s) (by omega) hlt
      refine Ev.step (f := fun k => (observatoryref08_next.f k s (i : Int)).bind fun bt115 => (if bt115.2.2.2.2 = 0 then (if (xs.length : Int) = 5000 then (some (([] : List STok), 2, (i : Int))) else (if xs.length < 3518437208883 then ((observatoryref08_Width.f bt115.1 bt115.2.1 bt115.2.2.1 bt115.2.2.2.1).bind fun t124 => ((observatoryref08_gap.f k s (wrap64 ((i : Int) + t124))).bind fun t125 => (observatoryref08_Lex.l0 k s (xs ++ [(⟨bt115.1, bt115.2.1, bt115.2.2.1, bt115.2.2.2.1⟩ : STok)]) t125))) else (none))) else (some (([] : List STok), bt115.2.2.2.2, (i : Int))))) (fun k => ?_) (Ev.bind (f := fun k bt115 => (if bt115.2.2.2.2 = 0 then (if (xs.length : Int) = 5000 then (some (([] : List STok), 2, (i : Int))) else (if xs.length < 3518437208883 then ((observatoryref08_Width.f bt115.1 bt115.2.1 bt115.2.2.1 bt115.2.2.2.1).bind fun t124 => ((observatoryref08_gap.f k s (wrap64 ((i : Int) + t124))).bind fun t125 => (observatoryref08_Lex.l0 k s (xs ++ [(⟨bt115.1, bt115.2.1, bt115.2.2.1, bt115.2.2.2.1⟩ : STok)]) t125))) else (none))) else (some (([] : List STok), bt115.2.2.2.2, (i : Int))))) hN ?_)
      · simp only [observatoryref08_Lex.l0]
        rw [if_pos hi1]
      · cases ht : tok1 (s.data.toList.drop i) with
        | err e =>
          have he := tok1_err ht
          have he' : ¬ e = 0 := by omega
          rw [Rst.err hR hlt ht]
          exact Ev.congr (f := fun _ => some _) (fun k => if_neg he') (Ev.now _)
        | tok k t n w =>
          simp only [refR, if_pos trivial]
          by_cases hx : xs.length = 5000
          · have hx' : (xs.length : Int) = 5000 := by omega
            rw [Rst.many hR hlt ht hx]
            simp only [if_pos hx']
            exact Ev.now _
          · have hx' : ¬ (xs.length : Int) = 5000 := by omega
            obtain ⟨s1, s2, s3, s4⟩ := Rst.step hR hlt ht hx
            obtain ⟨r1, r2⟩ := tok1_raw ht
            have hx'' : xs.length < 3518437208883 := by omega
            have hW := width_tok ⟨k, t, n, i⟩ (by show (rawOf k t).length ≤ 20000; omega)
            have hrl : (raw ⟨k, t, n, i⟩).length = w := r2
            rw [hrl] at hW
            have hW' : observatoryref08_Width.f k ⟨t.toArray⟩ n (i : Int) = some (w : Int) := hW
            have hw1 : wrap64 ((i : Int) + (w : Int)) = ((i + w : Nat) : Int) := by rw [w64s (by omega) (by omega)]; omega
            simp only [if_neg hx', if_pos hx'', hW', Option.bind_some, hw1]
            clear hw1
            have hg := gapEnd_le s (i + w) s1
            exact Ev.bind (f := fun k_1 t125 => observatoryref08_Lex.l0 k_1 s (xs ++ [(⟨k, ⟨t.toArray⟩, n, (i : Int)⟩ : STok)]) t125) (gap_ev (s := s) (by omega) s1) (ih (gapEnd s (i + w)) _ s4 hg.2 (by omega))
    · exact hout i xs hR hlt h1
theorem refLex_ev (s : ByteArray) : Ev (fun k => observatoryref08_Lex.f k s) (lexP s) := by
  unfold observatoryref08_Lex.f lexP
  by_cases h : 20000 < s.size
  · have h' : (s.size : Int) > 20000 := by omega
    simp only [if_pos h, if_pos h']
    exact Ev.now _
  · have h' : ¬ (s.size : Int) > 20000 := by omega
    simp only [if_neg h, if_neg h']
    have hg := gapEnd_le s 0 (Nat.zero_le _)
    exact Ev.bind (f := fun k t114 => observatoryref08_Lex.l0 k s ([] : List STok) t114) (gap_ev (s := s) (i := 0) (by omega) (Nat.zero_le _)) (ref_loop s (by omega) _ s.size (gapEnd s 0) [] (Rst.start s) hg.2 (by omega))
theorem lexP_toks (s : ByteArray) : ∃ ts : List Tok, (lexP s).1 = ts.map toS ∧ ts.length ≤ 5000 ∧ ∀ x ∈ ts, x.at_ ≤ 1000000 := by
  have hz : s.data.toList.length = s.size := by simp
  unfold lexP
  by_cases h : 20000 < s.size
  · rw [if_pos h]; exact ⟨[], rfl, by decide, by simp⟩
  · rw [if_neg h, show lexA (s.size + 1) s.data.toList 0 = lx s.data.toList 0 by unfold lx; rw [hz]]
    unfold lexR
    by_cases h5 : 5000 < (lx s.data.toList 0).1.length
    · rw [if_pos h5]; exact ⟨[], rfl, by decide, by simp⟩
    · rw [if_neg h5]
      cases hn : (lx s.data.toList 0).2 with
      | some x => exact ⟨[], rfl, by decide, by simp⟩
      | none => exact ⟨_, rfl, by omega, fun x hx => by have := tok_bounds hn hx; omega⟩
/-- The lexer answers as the reference does. -/
theorem LexerMatchesReference : observatorylaw08_LexerMatchesReference.Pure := by
  intro a0 _
  by_cases h3 : (a0.size : Int) > 21000
  · refine ⟨0, ?_⟩
    unfold observatorylaw08_LexerMatchesReference.f
    rw [head_true]
    simp only [Option.bind_some]
    rw [if_pos h3]
  · refine Ev.rounds (g := fun k => observatorylaw08_LexerMatchesReference.f k a0) ?_
    unfold observatorylaw08_LexerMatchesReference.f
    have hL : lexer_Lex.f a0 = some (lexP a0) := rfl
    simp only [head_true, Option.bind_some, if_neg h3, hL]
    obtain ⟨ts, t1, t2, t3⟩ := lexP_toks a0
    have hS := same_toS (ts := ts) (q := 0) (by decide) (by omega) t3
    rw [sh_zero, ← t1] at hS
    refine Ev.bind (f := fun k bt132 => (if true = true then (if (lexP a0).2.1 = bt132.2.1 then (if (lexP a0).2.2 = bt132.2.2 then ((observatoryref08_Same.f (lexP a0).1 0 bt132.1).bind fun t137 => (some t137)) else (some false)) else (some false)) else (some false))) (refLex_ev a0) ?_
    simp only [if_pos trivial]
    have hS' : observatoryref08_Same.f (lexP a0).1 0 (lexP a0).1 = some true := hS
    rw [hS']
    exact Ev.now true
end Go.Proofs.YtmbpjjdaklpemaaDoor.Pure
