/-
  What the rig's printed functions come to, in plain words.
-/
import Derived.Test.YtfklhpdnbbefbaaDoorRgP
namespace Go.Proofs.YtfklhpdnbbefbaaDoor.Px
open Go.RowKit Go.Proofs.YtfklhpdnbbefbaaDoorW.PrintWords Go.Proofs.YtfklhpdnbbefbaaDoorW.PrintLast Go.Proofs.YtfklhpdnbbefbaaDoor.Rg
set_option linter.unusedVariables false
set_option linter.unusedSimpArgs false
theorem wsm {x : Int} (h0 : -1000000000 ≤ x) (h1 : x ≤ 1000000000) : wrap64 x = x := by unfold wrap64; omega
theorem within_eq (a lo hi : Int) : rig_within_int.f a lo hi = some (decide (lo ≤ a ∧ a ≤ hi)) := by
  unfold rig_within_int.f
  by_cases h : a ≥ lo
  · rw [if_pos h]
    by_cases h2 : a ≤ hi
    · rw [decide_eq_true h2, decide_eq_true ⟨h, h2⟩]
    · rw [decide_eq_false h2, decide_eq_false (fun hh => h2 hh.2)]
  · rw [if_neg h, decide_eq_false (fun hh => h hh.1)]
def idB (id : ByteArray) : Bool := (rig_identifier.f id).getD false
theorem id_eq (id : ByteArray) : rig_identifier.f id = some (idB id) := by
  have : ∃ b, rig_identifier.f id = some b := by
    unfold rig_identifier.f
    have hL : lexer_Lex.f id = some (lexP id) := rfl
    rw [hL]
    simp only [Option.bind_some]
    by_cases h1 : (lexP id).2.1 = 0
    · rw [if_pos h1]
      by_cases h2 : ((lexP id).1.length : Int) = 1
      · rw [if_pos h2, if_pos (by omega)]
        split <;> exact ⟨_, rfl⟩
      · rw [if_neg h2]; exact ⟨_, rfl⟩
    · rw [if_neg h1]; exact ⟨_, rfl⟩
  obtain ⟨b, hb⟩ := this
  unfold idB
  rw [hb]; rfl
def TelOk (id : ByteArray) (site speed filters : Int) : Prop := idB id = true ∧ (0 ≤ site ∧ site ≤ 15) ∧ (1 ≤ speed ∧ speed ≤ 20) ∧ (1 ≤ filters ∧ filters ≤ 8)
instance (id : ByteArray) (site speed filters : Int) : Decidable (TelOk id site speed filters) := by unfold TelOk; infer_instance
theorem tel_eq (id : ByteArray) (site speed filters d0 d1 d2 d3 d4 : Int) : rig_telescope.f id site speed filters d0 d1 d2 d3 d4 = some (decide (TelOk id site speed filters)) := by
  unfold rig_telescope.f
  rw [id_eq]
  simp only [Option.bind_some, within_eq]
  by_cases h0 : idB id = true
  · rw [if_pos h0]
    by_cases h1 : 0 ≤ site ∧ site ≤ 15
    · rw [if_pos (decide_eq_true h1)]
      by_cases h2 : 1 ≤ speed ∧ speed ≤ 20
      · rw [if_pos (decide_eq_true h2)]
        by_cases h3 : 1 ≤ filters ∧ filters ≤ 8
        · rw [decide_eq_true h3, decide_eq_true (show TelOk id site speed filters from ⟨h0, h1, h2, h3⟩)]
        · rw [decide_eq_false h3, decide_eq_false (show ¬ TelOk id site speed filters from fun hh => h3 hh.2.2.2)]
      · rw [decide_eq_false h2, if_neg Bool.false_ne_true, decide_eq_false (show ¬ TelOk id site speed filters from fun hh => h2 hh.2.2.1)]
    · rw [decide_eq_false h1, if_neg Bool.false_ne_true, decide_eq_false (show ¬ TelOk id site speed filters from fun hh => h1 hh.2.1)]
  · rw [if_neg h0, decide_eq_false (show ¬ TelOk id site speed filters from fun hh => h0 hh.1)]
def turnN (F a b : Int) : Int := 2 * min (max (a - b) (b - a)) (F - max (a - b) (b - a))
def TurnOk (id : ByteArray) (site speed F a b : Int) : Prop := TelOk id site speed F ∧ (0 ≤ a ∧ a ≤ F - 1) ∧ (0 ≤ b ∧ b ≤ F - 1)
instance (id : ByteArray) (site speed F a b : Int) : Decidable (TurnOk id site speed F a b) := by unfold TurnOk; infer_instance
theorem turn_eq (id : ByteArray) (site speed F d0 d1 d2 d3 d4 a b : Int) : rig_Turn.f id site speed F d0 d1 d2 d3 d4 a b = some (if TurnOk id site speed F a b then (turnN F a b, 0) else (0, 1)) := by
  unfold rig_Turn.f
  rw [tel_eq]
  simp only [Option.bind_some, within_eq]
  by_cases h0 : TelOk id site speed F
  · rw [if_pos (decide_eq_true h0)]
    have hF := h0.2.2.2
    have e1 : wrap64 (F - 1) = F - 1 := wsm (by omega) (by omega)
    rw [e1]
    clear e1
    by_cases h1 : 0 ≤ a ∧ a ≤ F - 1
    · rw [if_pos (decide_eq_true h1)]
      by_cases h2 : 0 ≤ b ∧ b ≤ F - 1
      · rw [if_pos (decide_eq_true h2), if_pos (show TurnOk id site speed F a b from ⟨h0, h1, h2⟩)]
        rw [wsm (x := a - b) (by omega) (by omega), wsm (x := b - a) (by omega) (by omega)]
        have e2 : mx (a - b) (b - a) = max (a - b) (b - a) := by unfold mx; split <;> omega
        rw [e2]
        have hm : 0 ≤ max (a - b) (b - a) ∧ max (a - b) (b - a) ≤ 8 := by omega
        unfold turnN
        generalize max (a - b) (b - a) = m at *
        rw [wsm (x := F - m) (by omega) (by omega)]
        have e3 : mn m (F - m) = min m (F - m) := by unfold mn; split <;> omega
        rw [e3, wsm (by omega) (by omega)]
      · rw [decide_eq_false h2, if_neg Bool.false_ne_true, if_neg (fun hh => h2 hh.2.2)]
    · rw [decide_eq_false h1, if_neg Bool.false_ne_true, if_neg (fun hh => h1 hh.2.1)]
  · rw [decide_eq_false h0, if_neg Bool.false_ne_true, if_neg (fun hh => h0 hh.1)]
def ValOk (id : ByteArray) (site speed F at_ fl : Int) : Prop := TelOk id site speed F ∧ (-48 ≤ at_ ∧ at_ ≤ 48) ∧ (0 ≤ fl ∧ fl ≤ F - 1)
instance (id : ByteArray) (site speed F at_ fl : Int) : Decidable (ValOk id site speed F at_ fl) := by unfold ValOk; infer_instance
theorem valid_eq (id : ByteArray) (site speed F d0 d1 d2 d3 d4 at_ fl : Int) (st : Bool) : rig_Valid.f id site speed F d0 d1 d2 d3 d4 at_ fl st = some (decide (ValOk id site speed F at_ fl)) := by
  unfold rig_Valid.f
  rw [tel_eq]
  simp only [Option.bind_some, within_eq]
  by_cases h0 : TelOk id site speed F
  · rw [if_pos (decide_eq_true h0)]
    have hF := h0.2.2.2
    have e1 : wrap64 (F - 1) = F - 1 := wsm (by omega) (by omega)
    rw [e1]
    clear e1
    by_cases h1 : -48 ≤ at_ ∧ at_ ≤ 48
    · rw [if_pos (decide_eq_true h1)]
      by_cases h2 : 0 ≤ fl ∧ fl ≤ F - 1
      · rw [decide_eq_true h2, decide_eq_true (show ValOk id site speed F at_ fl from ⟨h0, h1, h2⟩)]
      · rw [decide_eq_false h2, decide_eq_false (show ¬ ValOk id site speed F at_ fl from fun hh => h2 hh.2.2)]
    · rw [decide_eq_false h1, if_neg Bool.false_ne_true, decide_eq_false (show ¬ ValOk id site speed F at_ fl from fun hh => h1 hh.2.1)]
  · rw [decide_eq_false h0, if_neg Bool.false_ne_true, decide_eq_false (show ¬ ValOk id site speed F at_ fl from fun hh => h0 hh.1)]
theorem mv_all : ∀ c : Nat, c < 32 → ∀ s : Nat, s < 97 → ((moveP ((s : Int) - 48) (c : Int)).2.2 = 0 ∧ -48 ≤ (moveP ((s : Int) - 48) (c : Int)).1 ∧ (moveP ((s : Int) - 48) (c : Int)).1 ≤ 48 ∧ 0 ≤ (moveP ((s : Int) - 48) (c : Int)).2.1 ∧ (moveP ((s : Int) - 48) (c : Int)).2.1 ≤ 1000) ∧
    decide ((moveP ((s : Int) - 48) (c : Int)).2.1 = 0) = decide ((moveP ((s : Int) - 48) (c : Int)).1 = (s : Int) - 48) ∧ moveP (moveP ((s : Int) - 48) (c : Int)).1 (c : Int) = ((moveP ((s : Int) - 48) (c : Int)).1, 0, 0) := by decide +kernel
theorem mv_ok {a c : Int} (ha : -48 ≤ a ∧ a ≤ 48) (hc : 0 ≤ c ∧ c < 32) : ∃ p d : Int, moveP a c = (p, d, 0) ∧ -48 ≤ p ∧ p ≤ 48 ∧ 0 ≤ d ∧ d ≤ 1000 ∧ (d = 0 ↔ p = a) ∧ moveP p c = (p, 0, 0) := by
  obtain ⟨s, rfl⟩ : ∃ s : Nat, a = (s : Int) - 48 := ⟨(a + 48).toNat, by omega⟩
  obtain ⟨k, rfl⟩ : ∃ k : Nat, c = (k : Int) := ⟨c.toNat, by omega⟩
  obtain ⟨⟨h1, h2, h3, h4, h5⟩, h6, h7⟩ := mv_all k (by omega) s (by omega)
  generalize moveP ((s : Int) - 48) (k : Int) = m at *
  obtain ⟨p, d, e⟩ := m
  simp only at h1 h2 h3 h4 h5 h6 h7
  subst h1
  exact ⟨p, d, rfl, h2, h3, h4, h5, by rw [decide_eq_decide] at h6; exact h6, h7⟩
theorem mv_no {a c : Int} (h : ¬ ((-48 ≤ a ∧ a ≤ 48) ∧ (0 ≤ c ∧ c < 32))) : moveP a c = (0, 0, 1) := by unfold moveP; rw [if_neg h]
def PrepOk (id : ByteArray) (site speed F at_ fl c f : Int) : Prop := ValOk id site speed F at_ fl ∧ (0 ≤ f ∧ f ≤ F - 1) ∧ (0 ≤ c ∧ c < 32)
instance (id : ByteArray) (site speed F at_ fl c f : Int) : Decidable (PrepOk id site speed F at_ fl c f) := by unfold PrepOk; infer_instance
def prepM (speed F at_ fl : Int) (st : Bool) (f p d : Int) : POut :=
  if p = at_ ∧ f = fl then (p, f, st, 0, 0) else if st = true ∧ f ≠ fl then (0, 0, false, 0, 20) else
  if max (speed * d) (turnN F fl f) > 60 then (0, 0, false, 0, 21) else (p, f, st, max (speed * d) (turnN F fl f), 0)
def prepP (id : ByteArray) (site speed F at_ fl : Int) (st : Bool) (c f : Int) : POut :=
  if PrepOk id site speed F at_ fl c f then prepM speed F at_ fl st f (moveP at_ c).1 (moveP at_ c).2.1 else (0, 0, false, 0, 1)
theorem prep_eq (id : ByteArray) (site speed F d0 d1 d2 d3 d4 at_ fl : Int) (st : Bool) (c f : Int) : rig_Prepare.f id site speed F d0 d1 d2 d3 d4 at_ fl st c f = some (prepP id site speed F at_ fl st c f) := by
  unfold rig_Prepare.f prepP
  rw [valid_eq]
  simp only [Option.bind_some, within_eq, turn_eq]
  by_cases h0 : ValOk id site speed F at_ fl
  · have hF := h0.1.2.2.2
    have hS := h0.1.2.2.1
    have e1 : wrap64 (F - 1) = F - 1 := wsm (by omega) (by omega)
    rw [decide_eq_true h0, if_neg (by decide), e1]
    clear e1
    by_cases h1 : 0 ≤ f ∧ f ≤ F - 1
    · rw [decide_eq_true h1, if_neg (by decide)]
      by_cases h2 : 0 ≤ c ∧ c < 32
      · obtain ⟨p, d, m1, m2, m3, m4, m5, m6, m7⟩ := mv_ok h0.2.1 h2
        rw [m1, if_pos (show PrepOk id site speed F at_ fl c f from ⟨h0, h1, h2⟩)]
        simp only
        rw [if_neg (by decide)]
        unfold prepM
        by_cases h3 : p = at_ ∧ f = fl
        · rw [if_pos h3, if_pos h3]
        · rw [if_neg h3, if_neg h3]
          by_cases h4 : st = true ∧ f ≠ fl
          · rw [if_pos h4, if_pos h4]
          · rw [if_neg h4, if_neg h4, if_pos (show TurnOk id site speed F fl f from ⟨h0.1, h0.2.2, h1⟩)]
            have hb : 0 ≤ speed * d ∧ speed * d ≤ 20000 := by
              constructor
              · exact Int.mul_nonneg (by omega) m4
              · have := Int.mul_le_mul (show speed ≤ 20 by omega) m5 m4 (by omega)
                omega
            rw [wsm (x := speed * d) (by omega) (by omega)]
            simp only
            by_cases h5 : max (speed * d) (turnN F fl f) > 60
            · rw [if_pos h5, if_pos h5]
            · rw [if_neg h5, if_neg h5]
      · rw [mv_no (fun hh => h2 hh.2), if_neg (show ¬ PrepOk id site speed F at_ fl c f from fun hh => h2 hh.2.2)]
        simp only
        rw [if_pos (by decide)]
    · rw [decide_eq_false h1, if_pos rfl, if_neg (show ¬ PrepOk id site speed F at_ fl c f from fun hh => h1 hh.2.1)]
  · rw [decide_eq_false h0, if_pos rfl, if_neg (show ¬ PrepOk id site speed F at_ fl c f from fun hh => h0 hh.1)]
end Go.Proofs.YtfklhpdnbbefbaaDoor.Px
