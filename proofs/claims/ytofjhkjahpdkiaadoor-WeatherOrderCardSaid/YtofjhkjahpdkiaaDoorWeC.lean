/-
  weather's formed. (printed by wip/gen/gen_weC.py)
-/
import Derived.Test.YtofjhkjahpdkiaaDoorWeB
namespace Go.Proofs.YtofjhkjahpdkiaaDoor.We
open Go.RowKit Go.MapKept Go.Proofs.YtofjhkjahpdkiaaDoorW.PrintWords
set_option linter.unusedVariables false
set_option linter.unusedSimpArgs false
attribute [local go_sem] run_store_func run_store_nilFunc
theorem keep3 {w1 w2 : World} (hb : Below w1.heap.size w1 w2) (b : Nat) (t : TypeId) (x y z : Value) (h : w1.heap[b]? = some (.cells #[x, y, z] t (0, 0))) :
    w2.cell? ⟨b, 0, none⟩ = some x ∧ w2.cell? ⟨b, 1, none⟩ = some y ∧ w2.cell? ⟨b, 2, none⟩ = some z ∧ w2.frozen? ⟨b, 0, none⟩ = false ∧ w2.frozen? ⟨b, 1, none⟩ = false ∧ w2.frozen? ⟨b, 2, none⟩ = false := by
  have h2 := (hb.block b (blk_lt h)).trans h
  exact ⟨(blk_cell h2 0).trans rfl, (blk_cell h2 1).trans rfl, (blk_cell h2 2).trans rfl, blk_frozen h2 0, blk_frozen h2 1, blk_frozen h2 2⟩
theorem bel_alloc_drew {w0 w1 : World} {o : Obj} (h : Below (w0.alloc o).drew.heap.size (w0.alloc o).drew w1) : Below w0.heap.size w0 w1 := by
  have ha := bel_new (Below.refl w0.heap.size w0) o (Nat.le_refl _)
  exact ha.trans ((Below.drew (Below.refl _ _)).trans (h.mono ha.size))
theorem bel_drew_alloc {w0 w1 : World} {o : Obj} (h : Below (w0.drew.alloc o).heap.size (w0.drew.alloc o) w1) : Below w0.heap.size w0 w1 := by
  have ha := (Below.drew (Below.refl w0.heap.size w0)).trans (bel_new (Below.refl w0.heap.size w0.drew) o (Nat.le_refl _))
  exact ha.trans (h.mono ha.size)
noncomputable def fRest : Code := match Tryd.f30.body with | some (.seq _ (.seq _ c)) => c | _ => .skip
theorem spell_facts {W : World} {b : Nat} {k q n f u : Int} (h : W.heap[b]? = some (.cells #[.int .i64 k, .int .i64 q, .int .i64 n, .int .i64 f, .int .i64 u] 32 (0, 0))) :
    W.cell? ⟨b, 0, none⟩ = some (.int .i64 k) ∧ W.cell? ⟨b, 1, none⟩ = some (.int .i64 q) ∧ W.cell? ⟨b, 2, none⟩ = some (.int .i64 n) ∧ W.cell? ⟨b, 3, none⟩ = some (.int .i64 f) ∧ W.cell? ⟨b, 4, none⟩ = some (.int .i64 u) :=
  ⟨(blk_cell h 0).trans rfl, (blk_cell h 1).trans rfl, (blk_cell h 2).trans rfl, (blk_cell h 3).trans rfl, (blk_cell h 4).trans rfl⟩
set_option maxHeartbeats 4000000 in
set_option maxRecDepth 1000000 in
theorem rest_1 (q n f u : Int) (w W : World) (kb : Nat) (x5 x6 x7 x8 x9 x10 x11 : Value) (N0 : Hid (W.heap[w.heap.size]? = some (.cells #[.int .i64 1, .int .i64 q, .int .i64 n, .int .i64 f, .int .i64 u] 32 (0, 0)))) (hc : W.cell? ⟨kb, 2, none⟩ = some (.func (.func 46) #[] #[])) (B : Hid (Below w.heap.size w W)) :
    Code.wp Tryd.prog fRest (bodyPost Tryd.prog Tryd.f30 fun e w' => e = .returned (.bool (formB 1 q n f u)) ∧ Below w.heap.size w w') { tmps := #[.agg #[.int .i64 1, .int .i64 q, .int .i64 n, .int .i64 f, .int .i64 u], .pointer (some ⟨w.heap.size, 0, none⟩), .bool false, .pointer (some ⟨kb, 0, none⟩), .bool true, x5, x6, x7, x8, x9, x10, x11, undef, undef, undef, undef, undef, undef, undef, undef, undef, undef, undef, undef, undef, undef, undef, undef, undef, undef, undef, undef, undef, undef, undef, undef], defers := [] } W := by
  show Code.wp Tryd.prog (.seq (.region 2 _ _) _) _ _ _
  obtain ⟨c0, c1, c2, c3, c4⟩ := spell_facts N0.out
  have hk : decide ((1 : Int) = 1 ∨ (1 : Int) = 2 ∨ (1 : Int) = 3) = true := by decide
  unfold formB
  rw [hk]
  clear hk
  rw [Bool.true_and]
  have hf := moment_calls f
  have hu := moment_calls u
  generalize decide (0 ≤ f ∧ f ≤ 38399) = bf at *
  generalize decide (0 ≤ u ∧ u ≤ 38399) = bu at *
  cases bf
  · clear hu
    rw [Bool.false_and]
    go_wp2_with fail
    refine (hf _).mono ?_
    rintro e w1 ⟨rfl, rfl⟩
    go_wp2_with fail
    go_ret
    exact ⟨rfl, B.out⟩
  · cases bu
    · rw [Bool.false_and, Bool.and_false]
      go_wp2_with fail
      refine (hf _).mono ?_
      rintro e w1 ⟨rfl, rfl⟩
      go_wp2_with fail
      refine (hu _).mono ?_
      rintro e w1 ⟨rfl, rfl⟩
      go_wp2_with fail
      go_ret
      exact ⟨rfl, B.out⟩
    · rw [Bool.true_and, Bool.true_and]
      by_cases h : f ≤ u
      · rw [decide_eq_true h, Bool.true_and]
        go_wp2_with fail
        refine (hf _).mono ?_
        rintro e w1 ⟨rfl, rfl⟩
        go_wp2_with fail
        refine (hu _).mono ?_
        rintro e w1 ⟨rfl, rfl⟩
        go_wp2_with fail
        refine (val1 1 q n f u _).mono ?_
        rintro e w1 ⟨rfl, hb⟩
        have HB := Lib.hid hb
        clear hb
        go_wp2_with fail
        go_ret
        exact ⟨rfl, B.out.trans (HB.out.mono B.out.size)⟩
      · rw [decide_eq_false h, Bool.false_and]
        go_wp2_with fail
        refine (hf _).mono ?_
        rintro e w1 ⟨rfl, rfl⟩
        go_wp2_with fail
        refine (hu _).mono ?_
        rintro e w1 ⟨rfl, rfl⟩
        go_wp2_with fail
        go_ret
        exact ⟨rfl, B.out⟩
set_option maxHeartbeats 4000000 in
set_option maxRecDepth 1000000 in
theorem rest_2 (q n f u : Int) (w W : World) (kb : Nat) (x5 x6 x7 x8 x9 x10 x11 : Value) (N0 : Hid (W.heap[w.heap.size]? = some (.cells #[.int .i64 2, .int .i64 q, .int .i64 n, .int .i64 f, .int .i64 u] 32 (0, 0)))) (hc : W.cell? ⟨kb, 2, none⟩ = some (.func (.func 48) #[] #[])) (B : Hid (Below w.heap.size w W)) :
    Code.wp Tryd.prog fRest (bodyPost Tryd.prog Tryd.f30 fun e w' => e = .returned (.bool (formB 2 q n f u)) ∧ Below w.heap.size w w') { tmps := #[.agg #[.int .i64 2, .int .i64 q, .int .i64 n, .int .i64 f, .int .i64 u], .pointer (some ⟨w.heap.size, 0, none⟩), .bool false, .pointer (some ⟨kb, 0, none⟩), .bool true, x5, x6, x7, x8, x9, x10, x11, undef, undef, undef, undef, undef, undef, undef, undef, undef, undef, undef, undef, undef, undef, undef, undef, undef, undef, undef, undef, undef, undef, undef, undef], defers := [] } W := by
  show Code.wp Tryd.prog (.seq (.region 2 _ _) _) _ _ _
  obtain ⟨c0, c1, c2, c3, c4⟩ := spell_facts N0.out
  have hk : decide ((2 : Int) = 1 ∨ (2 : Int) = 2 ∨ (2 : Int) = 3) = true := by decide
  unfold formB
  rw [hk]
  clear hk
  rw [Bool.true_and]
  have hf := moment_calls f
  have hu := moment_calls u
  generalize decide (0 ≤ f ∧ f ≤ 38399) = bf at *
  generalize decide (0 ≤ u ∧ u ≤ 38399) = bu at *
  cases bf
  · clear hu
    rw [Bool.false_and]
    go_wp2_with fail
    refine (hf _).mono ?_
    rintro e w1 ⟨rfl, rfl⟩
    go_wp2_with fail
    go_ret
    exact ⟨rfl, B.out⟩
  · cases bu
    · rw [Bool.false_and, Bool.and_false]
      go_wp2_with fail
      refine (hf _).mono ?_
      rintro e w1 ⟨rfl, rfl⟩
      go_wp2_with fail
      refine (hu _).mono ?_
      rintro e w1 ⟨rfl, rfl⟩
      go_wp2_with fail
      go_ret
      exact ⟨rfl, B.out⟩
    · rw [Bool.true_and, Bool.true_and]
      by_cases h : f ≤ u
      · rw [decide_eq_true h, Bool.true_and]
        go_wp2_with fail
        refine (hf _).mono ?_
        rintro e w1 ⟨rfl, rfl⟩
        go_wp2_with fail
        refine (hu _).mono ?_
        rintro e w1 ⟨rfl, rfl⟩
        go_wp2_with fail
        refine (val2 2 q n f u _).mono ?_
        rintro e w1 ⟨rfl, hb⟩
        have HB := Lib.hid hb
        clear hb
        go_wp2_with fail
        go_ret
        exact ⟨rfl, B.out.trans (HB.out.mono B.out.size)⟩
      · rw [decide_eq_false h, Bool.false_and]
        go_wp2_with fail
        refine (hf _).mono ?_
        rintro e w1 ⟨rfl, rfl⟩
        go_wp2_with fail
        refine (hu _).mono ?_
        rintro e w1 ⟨rfl, rfl⟩
        go_wp2_with fail
        go_ret
        exact ⟨rfl, B.out⟩
set_option maxHeartbeats 4000000 in
set_option maxRecDepth 1000000 in
theorem rest_3 (q n f u : Int) (w W : World) (kb : Nat) (x5 x6 x7 x8 x9 x10 x11 : Value) (N0 : Hid (W.heap[w.heap.size]? = some (.cells #[.int .i64 3, .int .i64 q, .int .i64 n, .int .i64 f, .int .i64 u] 32 (0, 0)))) (hc : W.cell? ⟨kb, 2, none⟩ = some (.func (.func 50) #[] #[])) (B : Hid (Below w.heap.size w W)) :
    Code.wp Tryd.prog fRest (bodyPost Tryd.prog Tryd.f30 fun e w' => e = .returned (.bool (formB 3 q n f u)) ∧ Below w.heap.size w w') { tmps := #[.agg #[.int .i64 3, .int .i64 q, .int .i64 n, .int .i64 f, .int .i64 u], .pointer (some ⟨w.heap.size, 0, none⟩), .bool false, .pointer (some ⟨kb, 0, none⟩), .bool true, x5, x6, x7, x8, x9, x10, x11, undef, undef, undef, undef, undef, undef, undef, undef, undef, undef, undef, undef, undef, undef, undef, undef, undef, undef, undef, undef, undef, undef, undef, undef], defers := [] } W := by
  show Code.wp Tryd.prog (.seq (.region 2 _ _) _) _ _ _
  obtain ⟨c0, c1, c2, c3, c4⟩ := spell_facts N0.out
  have hk : decide ((3 : Int) = 1 ∨ (3 : Int) = 2 ∨ (3 : Int) = 3) = true := by decide
  unfold formB
  rw [hk]
  clear hk
  rw [Bool.true_and]
  have hf := moment_calls f
  have hu := moment_calls u
  generalize decide (0 ≤ f ∧ f ≤ 38399) = bf at *
  generalize decide (0 ≤ u ∧ u ≤ 38399) = bu at *
  cases bf
  · clear hu
    rw [Bool.false_and]
    go_wp2_with fail
    refine (hf _).mono ?_
    rintro e w1 ⟨rfl, rfl⟩
    go_wp2_with fail
    go_ret
    exact ⟨rfl, B.out⟩
  · cases bu
    · rw [Bool.false_and, Bool.and_false]
      go_wp2_with fail
      refine (hf _).mono ?_
      rintro e w1 ⟨rfl, rfl⟩
      go_wp2_with fail
      refine (hu _).mono ?_
      rintro e w1 ⟨rfl, rfl⟩
      go_wp2_with fail
      go_ret
      exact ⟨rfl, B.out⟩
    · rw [Bool.true_and, Bool.true_and]
      by_cases h : f ≤ u
      · rw [decide_eq_true h, Bool.true_and]
        go_wp2_with fail
        refine (hf _).mono ?_
        rintro e w1 ⟨rfl, rfl⟩
        go_wp2_with fail
        refine (hu _).mono ?_
        rintro e w1 ⟨rfl, rfl⟩
        go_wp2_with fail
        refine (val3 3 q n f u _).mono ?_
        rintro e w1 ⟨rfl, hb⟩
        have HB := Lib.hid hb
        clear hb
        go_wp2_with fail
        go_ret
        exact ⟨rfl, B.out.trans (HB.out.mono B.out.size)⟩
      · rw [decide_eq_false h, Bool.false_and]
        go_wp2_with fail
        refine (hf _).mono ?_
        rintro e w1 ⟨rfl, rfl⟩
        go_wp2_with fail
        refine (hu _).mono ?_
        rintro e w1 ⟨rfl, rfl⟩
        go_wp2_with fail
        go_ret
        exact ⟨rfl, B.out⟩
set_option maxHeartbeats 4000000 in
set_option maxRecDepth 1000000 in
theorem rest_0 (k q n f u : Int) (hk : Hid (¬ (k = 1 ∨ k = 2 ∨ k = 3))) (w W : World) (kb : Nat) (x5 x6 x7 x8 x9 x10 x11 : Value) (N0 : Hid (W.heap[w.heap.size]? = some (.cells #[.int .i64 k, .int .i64 q, .int .i64 n, .int .i64 f, .int .i64 u] 32 (0, 0)))) (B : Hid (Below w.heap.size w W)) :
    Code.wp Tryd.prog fRest (bodyPost Tryd.prog Tryd.f30 fun e w' => e = .returned (.bool (formB k q n f u)) ∧ Below w.heap.size w w') { tmps := #[.agg #[.int .i64 k, .int .i64 q, .int .i64 n, .int .i64 f, .int .i64 u], .pointer (some ⟨w.heap.size, 0, none⟩), .bool false, .pointer (some ⟨kb, 0, none⟩), .bool false, x5, x6, x7, x8, x9, x10, x11, undef, undef, undef, undef, undef, undef, undef, undef, undef, undef, undef, undef, undef, undef, undef, undef, undef, undef, undef, undef, undef, undef, undef, undef], defers := [] } W := by
  show Code.wp Tryd.prog (.seq (.region 2 _ _) _) _ _ _
  have hF : formB k q n f u = false := by unfold formB; rw [decide_eq_false hk.out]; rfl
  rw [hF]
  clear hF
  go_wp2_with fail
  go_ret
  exact ⟨rfl, B.out⟩
end Go.Proofs.YtofjhkjahpdkiaaDoor.We
