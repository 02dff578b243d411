/-
  mount.Move as a contract.
-/
import Derived.Test.YtfklhpdnbbefbaaDoorRgM
namespace Go.Proofs.YtfklhpdnbbefbaaDoor.Rg
open Go.RowKit Go.Proofs.YtfklhpdnbbefbaaDoorW.PrintWords Go.Proofs.YtfklhpdnbbefbaaDoor.Lx Go.Proofs.YtfklhpdnbbefbaaDoor.Pm
set_option linter.unusedVariables false
set_option linter.unusedSimpArgs false
/-- The nearest position of a column. -/
def moveP (a c : Int) : Int × Int × Int :=
  if (-48 ≤ a ∧ a ≤ 48) ∧ (0 ≤ c ∧ c < 32) then
    (((reachL c).find? (fun p => decide (dst a p = colMin (reachL c) (a + 48).toNat))).getD 0, colMin (reachL c) (a + 48).toNat, 0)
  else (0, 0, 1)
set_option maxHeartbeats 4000000 in
set_option maxRecDepth 1000000 in
theorem move_calls (a c : Int) (w : World) :
    Calls Tryd.prog 17 #[.int .i64 a, .int .i64 c] w fun e w' => e = .returned (.tuple #[.int .i64 (moveP a c).1, .int .i64 (moveP a c).2.1, .int .i64 (moveP a c).2.2]) ∧ Below w.heap.size w w' := by
  have HE : ∃ m, m = moveP a c := ⟨_, rfl⟩
  obtain ⟨m, hm⟩ := HE
  rw [← hm]
  have HM := Lib.hid hm
  clear hm
  go_enter Tryd.func17, Tryd.ntmps17
  go_wp2_with fail
  by_cases ha : -48 ≤ a ∧ a ≤ 48
  · by_cases hc : 0 ≤ c ∧ c < 32
    · obtain ⟨s, hs⟩ : ∃ s : Nat, a = (s : Int) - 48 := ⟨(a + 48).toNat, by omega⟩
      obtain ⟨k, hk⟩ : ∃ k : Nat, c = (k : Int) := ⟨c.toNat, by omega⟩
      subst hs hk
      have hmE := HM.out
      unfold moveP at hmE
      rw [if_pos ⟨ha, hc⟩, show ((s : Int) - 48 + 48).toNat = s by omega] at hmE
      have hs97 : s < 97 := by omega
      have hk32 : k < 32 := by omega
      clear ha hc HM
      refine (plan_good s k hs97 hk32 w.heap.size _ (blk_new _ _)).mono ?_
      rintro e w2 ⟨v, p, rfl, hp, hv, hb⟩
      rw [hp] at hmE
      have h0 : m = (p, colMin (reachL (k : Int)) s, 0) := hmE
      subst h0
      clear hmE
      obtain ⟨A, cp, rfl⟩ := Kd.R_slice hv
      obtain ⟨ad, e1, hx1⟩ := Kd.at_int (Kd.R_reads' hv).2.2 0 (by decide) (by simp)
      cases e1
      have hx2 : w2.cell? ad = some (.int .i64 p) := by
        have h := hx1
        rw [show ((0 : Int)).toNat = 0 from rfl, Addr.add_zero'] at h
        exact h
      have HB := Lib.hid ((below_new (Below.refl w.heap.size w) _ (Nat.le_refl _)).trans (hb.mono (by simp)))
      clear hx1 hv hb
      go_wp2_with fail
      go_ret3
      exact ⟨rfl, HB.out⟩
    · have h0 : m = (0, 0, 1) := by rw [HM.out]; unfold moveP; rw [if_neg (fun h => hc h.2)]
      subst h0
      clear HM
      refine (plan_bad2 a c ha hc w.heap.size _ (blk_new _ _)).mono ?_
      rintro e w2 ⟨rfl, hb⟩
      have HB := Lib.hid ((below_new (Below.refl w.heap.size w) _ (Nat.le_refl _)).trans (hb.mono (by simp)))
      clear hb ha hc
      go_wp2_with fail
      go_ret3
      exact ⟨rfl, HB.out⟩
  · have h0 : m = (0, 0, 1) := by rw [HM.out]; unfold moveP; rw [if_neg (fun h => ha h.1)]
    subst h0
    clear HM
    refine (plan_bad1 a c ha w.heap.size _).mono ?_
    rintro e w2 ⟨rfl, hb⟩
    have HB := Lib.hid ((below_new (Below.refl w.heap.size w) _ (Nat.le_refl _)).trans (hb.mono (by simp)))
    clear hb ha
    go_wp2_with fail
    go_ret3
    exact ⟨rfl, HB.out⟩
end Go.Proofs.YtfklhpdnbbefbaaDoor.Rg
namespace Go.Proofs.YtfklhpdnbbefbaaDoor.Px
open Go.RowKit Go.Proofs.YtfklhpdnbbefbaaDoorW.PrintWords
def mount_Move.f (a0 a1 : Int) : Option (Int × Int × Int) := some (Go.Proofs.YtfklhpdnbbefbaaDoor.Rg.moveP a0 a1)
theorem mount_Move.calls (a0 : Int) (a1 : Int) (r1 : Int) (r2 : Int) (r3 : Int) (w : World) (h : mount_Move.f a0 a1 = some (r1, r2, r3)) :
    Calls Tryd.prog 17 #[.int .i64 a0, .int .i64 a1] w fun e w' => e = .returned (.tuple #[.int .i64 r1, .int .i64 r2, .int .i64 r3]) ∧ Below w.heap.size w w' := by
  have h0 : Go.Proofs.YtfklhpdnbbefbaaDoor.Rg.moveP a0 a1 = (r1, r2, r3) := Option.some.inj h
  have := Go.Proofs.YtfklhpdnbbefbaaDoor.Rg.move_calls a0 a1 w
  rw [h0] at this
  exact this
end Go.Proofs.YtfklhpdnbbefbaaDoor.Px
