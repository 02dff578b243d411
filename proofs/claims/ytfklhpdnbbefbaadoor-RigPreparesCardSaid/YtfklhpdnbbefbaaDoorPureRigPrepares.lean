import Derived.Test.YtfklhpdnbbefbaaDoorPureRigC
import Derived.Test.YtfklhpdnbbefbaaDoorPxxLRigPrepares
namespace Go.Proofs.YtfklhpdnbbefbaaDoor.Pure
open Go.RowKit Go.Proofs.YtfklhpdnbbefbaaDoor.Px Go.Proofs.YtfklhpdnbbefbaaDoorW.PrintWords Go.Proofs.YtfklhpdnbbefbaaDoorW.PrintLast Go.Proofs.YtfklhpdnbbefbaaDoor.Rg
set_option linter.unusedVariables false
set_option linter.unusedSimpArgs false
theorem RigPrepares (id : ByteArray) (site speed F d0 d1 d2 d3 d4 at_ fl : Int) (st : Bool) (c f : Int) : observatorylaw14_RigPrepares.f id site speed F d0 d1 d2 d3 d4 at_ fl st c f = some true := by
  unfold observatorylaw14_RigPrepares.f
  rw [head_true, few_eq]
  simp only [Option.bind_some]
  by_cases h60 : (id.size : Int) ≤ 60
  · rw [if_pos (decide_eq_true h60)]
    simp only [prep_eq, turn_eq, valid_eq, Option.bind_some]
    by_cases hP : PrepOk id site speed F at_ fl c f
    · obtain ⟨⟨hT, hA, hL⟩, hf, hc⟩ := hP
      obtain ⟨p, d, m1, m2, m3, m4, m5, m6, m7⟩ := mv_ok hA hc
      have hS := hT.2.2.1
      have hmv : mount_Move.f at_ c = some (p, d, 0) := by unfold mount_Move.f; rw [m1]
      have e1 : prepP id site speed F at_ fl st c f = prepM speed F at_ fl st f p d := by unfold prepP; rw [if_pos ⟨⟨hT, hA, hL⟩, hf, hc⟩, m1]
      have hV : ValOk id site speed F p f := ⟨hT, ⟨m2, m3⟩, hf⟩
      have hb : 0 ≤ speed * d ∧ speed * d ≤ 20000 := by
        constructor
        · exact Int.mul_nonneg (by omega) m4
        · have := Int.mul_le_mul (show speed ≤ 20 by omega) m5 m4 (by omega)
          omega
      have hw : wrap64 (speed * d) = speed * d := wsm (by omega) (by omega)
      have hmx : mx (speed * d) (turnN F fl f) = max (speed * d) (turnN F fl f) := by clear hw; unfold mx; split <;> omega
      have t1 := turn_ge hL hf
      rw [e1, hmv]
      simp only [Option.bind_some]
      rw [if_pos (show TurnOk id site speed F fl f from ⟨hT, hL, hf⟩)]
      rcases prepM_cases speed F at_ fl st f p d with ⟨q1, q2, q⟩ | ⟨q1, q2, q3, q⟩ | ⟨q1, q2, q3, q⟩ | ⟨q1, q2, q3, q⟩
      · rw [q]
        have hd : d = 0 := m6.2 q1
        have ht : turnN F fl f = 0 := (turn_zero hL hf).2 q2.symm
        simp only [hw, hmx, if_pos trivial, decide_eq_true hV]
        rw [hd, ht]
        simp
      · rw [q]; simp
      · rw [q]; simp
      · rw [q]
        simp only [hw, hmx, if_pos trivial, decide_eq_true hV]
        have h0 : 0 ≤ max (speed * d) (turnN F fl f) := by clear hw hmx; omega
        simp [h0, q3]
    · have e1 : prepP id site speed F at_ fl st c f = (0, 0, false, 0, 1) := by unfold prepP; rw [if_neg hP]
      rw [e1]; simp
  · rw [decide_eq_false h60, if_neg Bool.false_ne_true]
end Go.Proofs.YtfklhpdnbbefbaaDoor.Pure
