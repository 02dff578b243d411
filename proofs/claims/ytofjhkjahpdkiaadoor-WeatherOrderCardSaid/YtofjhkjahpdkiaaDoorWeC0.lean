/-
  weather's formed, kind 0. (printed by wip/gen/gen_weC.py)
-/
import Derived.Test.YtofjhkjahpdkiaaDoorWeC
namespace Go.Proofs.YtofjhkjahpdkiaaDoor.We
open Go.RowKit Go.MapKept Go.Proofs.YtofjhkjahpdkiaaDoorW.PrintWords
set_option linter.unusedVariables false
set_option linter.unusedSimpArgs false
attribute [local go_sem] run_store_func run_store_nilFunc
set_option maxHeartbeats 4000000 in
set_option maxRecDepth 1000000 in
theorem formed0 (k q n f u : Int) (hk : ¬ (k = 1 ∨ k = 2 ∨ k = 3)) (w : World) : Calls Tryd.prog 30 #[.agg #[.int .i64 k, .int .i64 q, .int .i64 n, .int .i64 f, .int .i64 u]] w fun e w' => e = .returned (.bool (formB k q n f u)) ∧ Below w.heap.size w w' := by
  have HK := Lib.hid hk
  clear hk
  go_enter Tryd.func30, Tryd.ntmps30
  go_upto_region 1 with (fail)
  have n0 := blk_new w (.cells #[.int .i64 k, .int .i64 q, .int .i64 n, .int .i64 f, .int .i64 u] 32)
  have b0 : Below w.heap.size w (w.alloc (.cells #[.int .i64 k, .int .i64 q, .int .i64 n, .int .i64 f, .int .i64 u] 32)) := bel_new (Below.refl _ _) _ (Nat.le_refl _)
  have l0 : w.heap.size < (w.alloc (.cells #[.int .i64 k, .int .i64 q, .int .i64 n, .int .i64 f, .int .i64 u] 32)).heap.size := blk_lt n0
  generalize w.alloc (.cells #[.int .i64 k, .int .i64 q, .int .i64 n, .int .i64 f, .int .i64 u] 32) = w0 at *
  have N0 := Lib.hid n0
  have B0 := Lib.hid b0
  have L0 := Lib.hid l0
  have c0 : w0.cell? ⟨w.heap.size, 0, none⟩ = some (.int .i64 k) := (blk_cell n0 0).trans rfl
  clear n0 b0 l0
  have c1 := cell_bel c0 (bel_new (Below.refl w0.heap.size _) (.cells #[.string ⟨#[]⟩, .nilFunc, .nilFunc] 65) (Nat.le_refl _))
  have hn := Lib.hid (blk_new w0 (.cells #[.string ⟨#[]⟩, .nilFunc, .nilFunc] 65))
  go_region_with (go_at_call 29; refine (kinds_calls _).mono ?_; rintro e w1 ⟨rfl, hm, hb⟩; have hm' := hm; (try (simp at hm')); have hl := look_no hm' k (find_no HK.out); have hl2 := look_no (blk_alloc hm' (.cells #[.string ⟨#[]⟩, .nilFunc, .nilFunc] 65)) k (find_no HK.out);  clear hm'; have cc := cell_bel (v := .int .i64 k) (a := ⟨w.heap.size, 0, none⟩) (by first | exact c0 | simpa using c0 | simpa using c1) hb; have cc2 := cell_bel cc (bel_new (Below.refl w1.heap.size _) (.cells #[.string ⟨#[]⟩, .nilFunc, .nilFunc] 65) (Nat.le_refl _)); (try (have d0 := (keep3 hb w0.heap.size 65 (.string ⟨#[]⟩) .nilFunc .nilFunc hn.out); have d1 := d0.1; have d2 := d0.2.1; have d3 := d0.2.2.1; have d4 := d0.2.2.2.1; have d5 := d0.2.2.2.2.1; have d6 := d0.2.2.2.2.2; clear d0)); have HB := Lib.hid hb; clear hb hm)
  all_goals (
    show Exit.then _ _ _ { tmps := #[_, _, _, _, _, _, _, _, _, _, _, _, _, _, _, _, _, _, _, _, _, _, _, _, _, _, _, _, _, _, _, _, _, _, _, _], defers := [] } _
    rename_i Q' K hK
    refine hK _ _ ?_
    have hb1 : Below w0.heap.size w0 w1 := by first | exact HB.out | exact (below_drew1 (Below.refl _ _)).trans HB.out | exact (below_drewN (Below.refl _ _) _).trans HB.out | exact bel_alloc_drew HB.out | exact bel_drew_alloc HB.out
    have n1 := (hb1.block _ L0.out).trans N0.out
    have b1 := B0.out.trans (hb1.mono B0.out.size)
    refine rest_0 k q n f u HK w _ _ _ _ _ _ _ _ _ ?_ ?_
    · first | exact Lib.hid (blk_alloc n1 _) | exact Lib.hid (blk_far (blk_far (blk_far n1 (Nat.ne_of_lt L0.out) _) (Nat.ne_of_lt L0.out) _) (Nat.ne_of_lt L0.out) _)
    · first | exact Lib.hid (bel_new b1 _ (Nat.le_refl _)) | exact Lib.hid (((b1.setCell (Nat.le_of_lt L0.out) _).setCell (Nat.le_of_lt L0.out) _).setCell (Nat.le_of_lt L0.out) _))
end Go.Proofs.YtofjhkjahpdkiaaDoor.We
