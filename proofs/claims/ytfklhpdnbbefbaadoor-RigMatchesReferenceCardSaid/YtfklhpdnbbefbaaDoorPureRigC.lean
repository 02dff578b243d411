/-
  Turns and preparations, in plain words.
-/
import Derived.Test.YtfklhpdnbbefbaaDoorRgQ
import Derived.Test.YtfklhpdnbbefbaaDoorRgH
namespace Go.Proofs.YtfklhpdnbbefbaaDoor.Pure
open Go.RowKit Go.Proofs.YtfklhpdnbbefbaaDoor.Px Go.Proofs.YtfklhpdnbbefbaaDoorW.PrintWords Go.Proofs.YtfklhpdnbbefbaaDoorW.PrintLast Go.Proofs.YtfklhpdnbbefbaaDoor.Rg
set_option linter.unusedVariables false
set_option linter.unusedSimpArgs false
theorem head_true : observatorylaw14_head.f = some true := rfl
theorem few_eq (id : ByteArray) (a1 a2 a3 a4 a5 a6 a7 a8 : Int) : observatorylaw14_few.f id a1 a2 a3 a4 a5 a6 a7 a8 = some (decide ((id.size : Int) ≤ 60)) := rfl
/-! ### turns -/
theorem turn_comm (F a b : Int) : turnN F a b = turnN F b a := by unfold turnN; omega
theorem turn_zero {F a b : Int} (h1 : 0 ≤ a ∧ a ≤ F - 1) (h2 : 0 ≤ b ∧ b ≤ F - 1) : turnN F a b = 0 ↔ a = b := by unfold turnN; omega
theorem turn_ge {F a b : Int} (h1 : 0 ≤ a ∧ a ≤ F - 1) (h2 : 0 ≤ b ∧ b ≤ F - 1) : 0 ≤ turnN F a b ∧ turnN F a b ≤ F := by unfold turnN; omega
theorem turn_tri {F a b c : Int} (h1 : 0 ≤ a ∧ a ≤ F - 1) (h2 : 0 ≤ b ∧ b ≤ F - 1) (h3 : 0 ≤ c ∧ c ≤ F - 1) : turnN F a c ≤ turnN F a b + turnN F b c := by unfold turnN; omega
/-! ### preparing -/
theorem prepM_cases (speed F at_ fl : Int) (st : Bool) (f p d : Int) : (p = at_ ∧ f = fl ∧ prepM speed F at_ fl st f p d = (p, f, st, 0, 0)) ∨
    (¬ (p = at_ ∧ f = fl) ∧ st = true ∧ f ≠ fl ∧ prepM speed F at_ fl st f p d = (0, 0, false, 0, 20)) ∨
    (¬ (p = at_ ∧ f = fl) ∧ ¬ (st = true ∧ f ≠ fl) ∧ max (speed * d) (turnN F fl f) > 60 ∧ prepM speed F at_ fl st f p d = (0, 0, false, 0, 21)) ∨
    (¬ (p = at_ ∧ f = fl) ∧ ¬ (st = true ∧ f ≠ fl) ∧ max (speed * d) (turnN F fl f) ≤ 60 ∧ prepM speed F at_ fl st f p d = (p, f, st, max (speed * d) (turnN F fl f), 0)) := by
  unfold prepM
  by_cases h1 : p = at_ ∧ f = fl
  · rw [if_pos h1]; exact Or.inl ⟨h1.1, h1.2, rfl⟩
  · rw [if_neg h1]
    by_cases h2 : st = true ∧ f ≠ fl
    · rw [if_pos h2]; exact Or.inr (Or.inl ⟨h1, h2.1, h2.2, rfl⟩)
    · rw [if_neg h2]
      by_cases h3 : max (speed * d) (turnN F fl f) > 60
      · rw [if_pos h3]; exact Or.inr (Or.inr (Or.inl ⟨h1, h2, h3, rfl⟩))
      · rw [if_neg h3]; exact Or.inr (Or.inr (Or.inr ⟨h1, h2, by omega, rfl⟩))
end Go.Proofs.YtfklhpdnbbefbaaDoor.Pure
