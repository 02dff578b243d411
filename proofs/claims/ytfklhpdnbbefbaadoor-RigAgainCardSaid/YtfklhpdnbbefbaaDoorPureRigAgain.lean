import Derived.Test.YtfklhpdnbbefbaaDoorPureRigC
import Derived.Test.YtfklhpdnbbefbaaDoorPxxLRigAgain
namespace Go.Proofs.YtfklhpdnbbefbaaDoor.Pure
open Go.RowKit Go.Proofs.YtfklhpdnbbefbaaDoor.Px Go.Proofs.YtfklhpdnbbefbaaDoorW.PrintWords Go.Proofs.YtfklhpdnbbefbaaDoorW.PrintLast Go.Proofs.YtfklhpdnbbefbaaDoor.Rg
set_option linter.unusedVariables false
set_option linter.unusedSimpArgs false
theorem RigAgain (id : ByteArray) (site speed F d0 d1 d2 d3 d4 at_ fl : Int) (st : Bool) (c f : Int) : observatorylaw14_RigAgain.f id site speed F d0 d1 d2 d3 d4 at_ fl st c f = some true := by
  unfold observatorylaw14_RigAgain.f
  rw [head_true, few_eq]
  simp only [Option.bind_some]
  by_cases h60 : (id.size : Int) ≤ 60
  · rw [if_pos (decide_eq_true h60)]
    simp only [prep_eq, Option.bind_some]
    by_cases hP : PrepOk id site speed F at_ fl c f
    · obtain ⟨⟨hT, hA, hL⟩, hf, hc⟩ := hP
      obtain ⟨p, d, m1, m2, m3, m4, m5, m6, m7⟩ := mv_ok hA hc
      have e1 : prepP id site speed F at_ fl st c f = prepM speed F at_ fl st f p d := by unfold prepP; rw [if_pos ⟨⟨hT, hA, hL⟩, hf, hc⟩, m1]
      have e2 : prepP id site speed F p f st c f = (p, f, st, 0, 0) := by unfold prepP; rw [if_pos ⟨⟨hT, ⟨m2, m3⟩, hf⟩, hf, hc⟩, m7]; unfold prepM; rw [if_pos ⟨rfl, rfl⟩]
      rw [e1]
      have hS := hT.2.2.1
      rcases prepM_cases speed F at_ fl st f p d with ⟨q1, q2, q⟩ | ⟨q1, q2, q3, q⟩ | ⟨q1, q2, q3, q⟩ | ⟨q1, q2, q3, q⟩
      · rw [q]; subst q1 q2; simp [e2]
      · rw [q]; simp
      · rw [q]; simp
      · rw [q]
        simp only [e2, if_pos trivial]
        have hz : max (speed * d) (turnN F fl f) ≠ 0 := by
          intro hh
          have t1 := turn_ge hL hf
          have t2 := turn_zero hL hf
          have hd : 0 ≤ speed * d := Int.mul_nonneg (by omega) m4
          have hd0 : speed * d = 0 := by omega
          have ht0 : turnN F fl f = 0 := by omega
          have : d = 0 := by
            rcases Int.mul_eq_zero.1 hd0 with h | h
            · omega
            · exact h
          exact q1 ⟨m6.1 this, (t2.1 ht0).symm⟩
        have hb : (p == at_ && f == fl) = false := by
          rw [Bool.eq_false_iff]
          intro hh
          rw [Bool.and_eq_true, beq_iff_eq, beq_iff_eq] at hh
          exact q1 hh
        simp
        rw [hb]
        exact beq_eq_false_iff_ne.2 hz
    · have e1 : prepP id site speed F at_ fl st c f = (0, 0, false, 0, 1) := by unfold prepP; rw [if_neg hP]
      rw [e1]; simp
  · rw [decide_eq_false h60, if_neg Bool.false_ne_true]
end Go.Proofs.YtfklhpdnbbefbaaDoor.Pure
