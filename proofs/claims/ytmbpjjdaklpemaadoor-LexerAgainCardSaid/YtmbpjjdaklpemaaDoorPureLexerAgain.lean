import Derived.Test.YtmbpjjdaklpemaaDoorPxx6
import Derived.Test.YtmbpjjdaklpemaaDoorLxX
namespace Go.Proofs.YtmbpjjdaklpemaaDoor.Pure
open Go.RowKit Go.Proofs.YtmbpjjdaklpemaaDoor.Px Go.Proofs.YtmbpjjdaklpemaaDoorW.PrintWords Go.Proofs.YtmbpjjdaklpemaaDoorW.PrintLast Go.Proofs.YtmbpjjdaklpemaaDoor.Lx
theorem all_ev (ts : List Tok) (us : List Tok) : ∀ (pre : List Tok) (acc : List UInt8), pre ++ us = ts → acc.length + (allOf us).length ≤ 10000 → ts.length ≤ 100000 →
    Ev (fun k => observatorylaw08_all.l0 k (ts.map toS) ⟨acc.toArray⟩ (pre.length : Int)) ⟨(acc ++ allOf us).toArray⟩ := by
  induction us with
  | nil =>
    intro pre acc hp hb hl
    refine Ev.step (f := fun _ => some ⟨acc.toArray⟩) (fun k => ?_) ?_
    · simp only [observatorylaw08_all.l0]
      rw [if_neg (by rw [List.length_map, ← hp, List.append_nil]; omega)]
    · have : acc ++ allOf [] = acc := List.append_nil _
      rw [this]
      exact Ev.now _
  | cons x us ih =>
    intro pre acc hp hb hl
    have hall : allOf (x :: us) = (raw x ++ [32]) ++ allOf us := rfl
    rw [hall] at hb ⊢
    have hr : (raw x).length + 1 + acc.length ≤ 10000 := by
      rw [List.length_append, List.length_append] at hb
      simp only [List.length_cons, List.length_nil] at hb
      omega
    have hx : ts[pre.length]? = some x := by rw [← hp]; simp
    have r1 := rd_toS hx
    have hlt : pre.length < ts.length := by rw [← hp]; simp
    have hw := written_tok x (by omega)
    have hw1 : wrap64 ((pre.length : Int) + 1) = (((pre ++ [x]).length : Nat) : Int) := by
      rw [w64s (by omega) (by omega), List.length_append]; simp
    refine Ev.step (f := fun k => observatorylaw08_all.l0 k (ts.map toS) ⟨(acc ++ (raw x ++ [32])).toArray⟩ (((pre ++ [x]).length : Nat) : Int)) (fun k => ?_) ?_
    · have s1 : (⟨(raw x).toArray⟩ : ByteArray).size = (raw x).length := by rw [size_len]
      have s2 : ((⟨(raw x).toArray⟩ : ByteArray) ++ (⟨#[32]⟩ : ByteArray)) = ⟨(raw x ++ [32]).toArray⟩ := ba_app (raw x) [32]
      have s3 : (⟨(raw x ++ [32]).toArray⟩ : ByteArray).size = (raw x).length + 1 := by rw [size_len]; simp
      have s4 : (⟨acc.toArray⟩ : ByteArray).size = acc.length := by rw [size_len]
      simp only [observatorylaw08_all.l0]
      rw [if_pos (by rw [List.length_map]; clear hw1; omega), if_pos (Int.natCast_nonneg _), r1, hw]
      simp only [Option.bind_some]
      rw [if_pos (by rw [s1]; exact Nat.le_trans (by clear hw1; omega) (show 10000 ≤ 9223372036854775807 by decide)), s2,
        if_pos (by rw [s3, s4]; exact Nat.le_trans (by clear hw1; omega) (show 10000 ≤ 9223372036854775807 by decide)), ba_app, hw1]
    · have := ih (pre ++ [x]) (acc ++ (raw x ++ [32])) (by rw [List.append_assoc]; exact hp) (by
        rw [List.length_append] at hb ⊢
        omega) hl
      rw [List.append_assoc] at this
      exact this
/-- The tokens' bytes, each with one space behind it, lex to the same tokens, their places aside. -/
theorem LexerAgain : observatorylaw08_LexerAgain.Pure := by
  intro a0 _
  have hz := size_len a0
  by_cases h3 : (a0.size : Int) > 2000
  · refine ⟨0, ?_⟩
    unfold observatorylaw08_LexerAgain.f
    rw [head_true]
    simp only [Option.bind_some]
    rw [if_pos h3]
  · refine Ev.rounds (g := fun k => observatorylaw08_LexerAgain.f k a0) ?_
    unfold observatorylaw08_LexerAgain.f
    simp only [head_true, Option.bind_some, if_neg h3]
    cases hn : (lx a0.data.toList 0).2 with
    | none =>
      obtain ⟨g1, g2, g3⟩ := again a0.data.toList.length a0.data.toList 0 0 (Nat.le_refl _) hn
      have hlen := lx_len _ a0.data.toList 0 (Nat.le_refl _)
      have hall := all_ev (lx a0.data.toList 0).1 (lx a0.data.toList 0).1 [] [] rfl (by simp only [List.length_nil]; omega) (by omega)
      simp only [lex_ok (s := a0) (by omega) hn, Option.bind_some, if_pos trivial]
      refine Ev.bind (a := ⟨(allOf (lx a0.data.toList 0).1).toArray⟩) (f := fun k t => (lexer_Lex.f t).bind fun bt173 => (if true = true then (if bt173.2.1 = 0 then ((observatoryref08_Alike.f k ((lx a0.data.toList 0).1.map toS) bt173.1).bind fun t178 => (some t178)) else (some false)) else (some false))) hall ?_
      have s1 : (⟨(allOf (lx a0.data.toList 0).1).toArray⟩ : ByteArray).size ≤ 5000 := by rw [size_len]; simp only; omega
      simp only [lex_ok s1 g1, Option.bind_some, if_pos trivial]
      exact Ev.bind (f := fun _ t => some t) (alike_ev g2 (by omega)) (Ev.now true)
    | some x =>
      obtain ⟨e, o⟩ := x
      obtain ⟨m1, m2⟩ := lex_no (s := a0) (by omega) hn
      simp only [m1, Option.bind_some, if_neg m2]
      exact Ev.now true
end Go.Proofs.YtmbpjjdaklpemaaDoor.Pure
