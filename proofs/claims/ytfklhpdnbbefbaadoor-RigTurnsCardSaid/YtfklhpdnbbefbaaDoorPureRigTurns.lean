import Derived.Test.YtfklhpdnbbefbaaDoorPureRigC
import Derived.Test.YtfklhpdnbbefbaaDoorPxxLRigTurns
namespace Go.Proofs.YtfklhpdnbbefbaaDoor.Pure
open Go.RowKit Go.Proofs.YtfklhpdnbbefbaaDoor.Px Go.Proofs.YtfklhpdnbbefbaaDoorW.PrintWords Go.Proofs.YtfklhpdnbbefbaaDoorW.PrintLast Go.Proofs.YtfklhpdnbbefbaaDoor.Rg
set_option linter.unusedVariables false
set_option linter.unusedSimpArgs false
theorem RigTurns (id : ByteArray) (site speed F d0 d1 d2 d3 d4 a b c : Int) : ∃ k, observatorylaw14_RigTurns.f k id site speed F d0 d1 d2 d3 d4 a b c = some true := by
  refine ⟨1, ?_⟩
  unfold observatorylaw14_RigTurns.f
  rw [head_true, few_eq]
  simp only [Option.bind_some]
  by_cases h60 : (id.size : Int) ≤ 60
  · rw [if_pos (decide_eq_true h60)]
    simp only [turn_eq, Option.bind_some]
    by_cases hT : TelOk id site speed F
    · have hF := hT.2.2.2
      by_cases hA : 0 ≤ a ∧ a ≤ F - 1
      · by_cases hB : 0 ≤ b ∧ b ≤ F - 1
        · rw [if_pos (show TurnOk id site speed F a b from ⟨hT, hA, hB⟩), if_pos (show TurnOk id site speed F b a from ⟨hT, hB, hA⟩)]
          simp only [turn_comm F b a]
          rw [if_pos trivial, show (turnN F a b != turnN F a b) = false by simp]
          simp only [observatorylaw14_RigTurns.j0]
          rw [if_neg Bool.false_ne_true, if_pos trivial]
          by_cases hC : 0 ≤ c ∧ c ≤ F - 1
          · rw [if_pos (show TurnOk id site speed F b c from ⟨hT, hB, hC⟩), if_pos (show TurnOk id site speed F a c from ⟨hT, hA, hC⟩)]
            simp only
            have h1 := turn_zero hA hB
            have h2 := turn_ge hA hB
            have h3 := turn_ge hB hC
            have h4 := turn_tri hA hB hC
            have h5 : ((turnN F a b == 0) == (a == b)) = true := by
              by_cases e : a = b
              · rw [beq_iff_eq.2 (h1.2 e), beq_iff_eq.2 e]; rfl
              · rw [beq_eq_false_iff_ne.2 (fun hh => e (h1.1 hh)), beq_eq_false_iff_ne.2 e]; rfl
            rw [if_pos trivial, if_pos trivial, if_pos trivial, if_pos h5, if_pos h2.1, if_pos h2.2, wsm (by omega) (by omega), decide_eq_true h4]
          · rw [if_neg (show ¬ TurnOk id site speed F b c from fun hh => hC hh.2.2), if_neg (show ¬ TurnOk id site speed F a c from fun hh => hC hh.2.2)]
            simp
        · rw [if_neg (show ¬ TurnOk id site speed F a b from fun hh => hB hh.2.2), if_neg (show ¬ TurnOk id site speed F b a from fun hh => hB hh.2.1)]
          simp [observatorylaw14_RigTurns.j0]
      · rw [if_neg (show ¬ TurnOk id site speed F a b from fun hh => hA hh.2.1), if_neg (show ¬ TurnOk id site speed F b a from fun hh => hA hh.2.2)]
        simp [observatorylaw14_RigTurns.j0]
    · rw [if_neg (show ¬ TurnOk id site speed F a b from fun hh => hT hh.1), if_neg (show ¬ TurnOk id site speed F b a from fun hh => hT hh.1)]
      simp [observatorylaw14_RigTurns.j0]
  · rw [decide_eq_false h60, if_neg Bool.false_ne_true]
end Go.Proofs.YtfklhpdnbbefbaaDoor.Pure
