import Derived.Test.YtfklhpdnbbefbaaDoorPureRigC
import Derived.Test.YtfklhpdnbbefbaaDoorPxxLRigFaster
namespace Go.Proofs.YtfklhpdnbbefbaaDoor.Pure
open Go.RowKit Go.Proofs.YtfklhpdnbbefbaaDoor.Px Go.Proofs.YtfklhpdnbbefbaaDoorW.PrintWords Go.Proofs.YtfklhpdnbbefbaaDoorW.PrintLast Go.Proofs.YtfklhpdnbbefbaaDoor.Rg
set_option linter.unusedVariables false
set_option linter.unusedSimpArgs false
theorem RigFaster (id : ByteArray) (site speed F d0 d1 d2 d3 d4 at_ fl : Int) (st : Bool) (c f v : Int) : ∃ k, observatorylaw14_RigFaster.f k id site speed F d0 d1 d2 d3 d4 at_ fl st c f v = some true := by
  refine ⟨1, ?_⟩
  unfold observatorylaw14_RigFaster.f
  rw [head_true, few_eq]
  simp only [Option.bind_some]
  have hout : observatorylaw14_RigFaster.j0 1 c f v true true id site speed F d0 d1 d2 d3 d4 at_ fl st = some true := by simp [observatorylaw14_RigFaster.j0]
  by_cases h60 : (id.size : Int) ≤ 60
  · rw [if_pos (decide_eq_true h60)]
    by_cases hv1 : v < 1
    · rw [if_pos hv1]; exact hout
    · rw [if_neg hv1]
      by_cases hv2 : v > speed
      · rw [decide_eq_true hv2]; exact hout
      · rw [decide_eq_false hv2]
        simp only [observatorylaw14_RigFaster.j0]
        rw [if_neg Bool.false_ne_true]
        simp only [prep_eq, Option.bind_some]
        by_cases hP : PrepOk id site speed F at_ fl c f
        · obtain ⟨⟨hT, hA, hL⟩, hf, hc⟩ := hP
          obtain ⟨p, d, m1, m2, m3, m4, m5, m6, m7⟩ := mv_ok hA hc
          have hS := hT.2.2.1
          have hT2 : TelOk id site v F := ⟨hT.1, hT.2.1, ⟨by omega, by omega⟩, hT.2.2.2⟩
          have e1 : prepP id site speed F at_ fl st c f = prepM speed F at_ fl st f p d := by unfold prepP; rw [if_pos ⟨⟨hT, hA, hL⟩, hf, hc⟩, m1]
          have e2 : prepP id site v F at_ fl st c f = prepM v F at_ fl st f p d := by unfold prepP; rw [if_pos ⟨⟨hT2, hA, hL⟩, hf, hc⟩, m1]
          rw [e1, e2]
          rcases prepM_cases speed F at_ fl st f p d with ⟨q1, q2, q⟩ | ⟨q1, q2, q3, q⟩ | ⟨q1, q2, q3, q⟩ | ⟨q1, q2, q3, q⟩
          · have q' : prepM v F at_ fl st f p d = (p, f, st, 0, 0) := by unfold prepM; rw [if_pos ⟨q1, q2⟩]
            rw [q, q']; simp
          · rw [q]; simp
          · rw [q]; simp
          · have hle : v * d ≤ speed * d := Int.mul_le_mul_of_nonneg_right (by omega) m4
            have q' : prepM v F at_ fl st f p d = (p, f, st, max (v * d) (turnN F fl f), 0) := by
              unfold prepM; rw [if_neg q1, if_neg q2, if_neg (by omega)]
            rw [q, q']
            have : max (v * d) (turnN F fl f) ≤ max (speed * d) (turnN F fl f) := by omega
            simp [this]
        · have e1 : prepP id site speed F at_ fl st c f = (0, 0, false, 0, 1) := by unfold prepP; rw [if_neg hP]
          rw [e1]; simp
  · rw [decide_eq_false h60, if_neg Bool.false_ne_true]; exact hout
end Go.Proofs.YtfklhpdnbbefbaaDoor.Pure
