import Derived.Test.YtmbpjjdaklpemaaDoorPxx7
import Derived.Test.YtmbpjjdaklpemaaDoorLxV
namespace Go.Proofs.YtmbpjjdaklpemaaDoor.Pure
open Go.RowKit Go.Proofs.YtmbpjjdaklpemaaDoor.Px Go.Proofs.YtmbpjjdaklpemaaDoorW.PrintWords Go.Proofs.YtmbpjjdaklpemaaDoorW.PrintLast Go.Proofs.YtmbpjjdaklpemaaDoor.Lx

/-- A text with an error: what stands before its offset has none, what stands from there on has it at 0. -/
theorem LexerBeginnings : observatorylaw08_LexerBeginnings.Pure := by
  intro a0 _
  have hz := size_len a0
  by_cases h3 : (a0.size : Int) > 3000
  · refine ⟨0, ?_⟩
    unfold observatorylaw08_LexerBeginnings.f
    rw [head_true]
    simp only [Option.bind_some]
    rw [if_pos h3]
  · refine ⟨1, ?_⟩
    unfold observatorylaw08_LexerBeginnings.f
    rw [head_true]
    simp only [Option.bind_some]
    rw [if_neg h3]
    cases hn : (lx a0.data.toList 0).2 with
    | none =>
      rw [lex_ok (by omega) hn]
      simp only [Option.bind_some]
      rw [if_pos trivial, if_pos trivial]
      rfl
    | some x =>
      obtain ⟨e, p⟩ := x
      obtain ⟨l1, l2⟩ := lex_no (s := a0) (by omega) hn
      obtain ⟨b1, b2, b3, b4⟩ := begins _ _ _ _ _ (Nat.le_refl _) hn
      rw [l1]
      simp only [Option.bind_some]
      have hd : decide ((p : Int) ≥ (a0.size : Int)) = false := decide_eq_false (by omega)
      rw [if_neg l2, if_neg (by omega), hd]
      simp only [observatorylaw08_LexerBeginnings.j0]
      have t1 : (a0.extract 0 p).data.toList = a0.data.toList.take p := by rw [Lib.extract_data]; simp
      have t2 : (a0.extract p a0.size).data.toList = a0.data.toList.drop p := Lib.extract_to_end a0 p
      have s1 : (a0.extract 0 p).size ≤ 5000 := by rw [size_len, t1, List.length_take]; omega
      have s2 : (a0.extract p a0.size).size ≤ 5000 := by rw [size_len, t2, List.length_drop]; omega
      rw [Nat.sub_zero] at b3 b4
      have m1 := lex_ok s1 (by rw [t1]; exact b3 0)
      have m2 := (lex_no s2 (by rw [t2]; exact congrArg Prod.snd (b4 0))).1
      rw [if_neg (by simp), if_pos (by omega), if_pos (by omega), Int.toNat_natCast, m1]
      simp only [Option.bind_some]
      rw [m2]
      simp
end Go.Proofs.YtmbpjjdaklpemaaDoor.Pure
