/-
  The telescope and the rig as a row's own variables.
-/
import Derived.Test.YtfklhpdnbbefbaaDoorPureRigC
namespace Go.Proofs.YtfklhpdnbbefbaaDoor.Px
open Go.RowKit Go.Proofs.YtfklhpdnbbefbaaDoorW.PrintWords Go.Proofs.YtfklhpdnbbefbaaDoorW.PrintLast Go.Proofs.YtfklhpdnbbefbaaDoor.Rg Go.Proofs.YtfklhpdnbbefbaaDoor.Lx
set_option linter.unusedVariables false
set_option linter.unusedSimpArgs false
structure QSt (w w1 : World) (s : ByteArray) (t1 t2 t3 t4 t5 t6 t7 t8 x y : Int) (z : Bool) : Prop where
  below : Below w.heap.size w w1
  t : w1.heap[w.heap.size]? = some (.cells #[.string s, .int .i64 t1, .int .i64 t2, .int .i64 t3, .int .i64 t4, .int .i64 t5, .int .i64 t6, .int .i64 t7, .int .i64 t8] 25 (0, 0))
  r : w1.heap[(w.heap.size + 1)]? = some (.cells #[.int .i64 x, .int .i64 y, .bool z] 27 (0, 0))
theorem QSt.start (w : World) (s : ByteArray) (t1 t2 t3 t4 t5 t6 t7 t8 x y : Int) (z : Bool) : QSt w ((w.alloc (.cells #[.string s, .int .i64 t1, .int .i64 t2, .int .i64 t3, .int .i64 t4, .int .i64 t5, .int .i64 t6, .int .i64 t7, .int .i64 t8] 25)).alloc (.cells #[.int .i64 x, .int .i64 y, .bool z] 27)) s t1 t2 t3 t4 t5 t6 t7 t8 x y z := by
  have s1 : (w.alloc (.cells #[.string s, .int .i64 t1, .int .i64 t2, .int .i64 t3, .int .i64 t4, .int .i64 t5, .int .i64 t6, .int .i64 t7, .int .i64 t8] 25)).heap.size = w.heap.size + 1 := by simp
  have h0 := blk_new w (.cells #[.string s, .int .i64 t1, .int .i64 t2, .int .i64 t3, .int .i64 t4, .int .i64 t5, .int .i64 t6, .int .i64 t7, .int .i64 t8] 25 (0, 0))
  have h1 := blk_new (w.alloc (.cells #[.string s, .int .i64 t1, .int .i64 t2, .int .i64 t3, .int .i64 t4, .int .i64 t5, .int .i64 t6, .int .i64 t7, .int .i64 t8] 25)) (.cells #[.int .i64 x, .int .i64 y, .bool z] 27 (0, 0))
  rw [s1] at h1
  exact ⟨below_new (below_new (Below.refl _ _) _ (Nat.le_refl _)) _ (Nat.le_refl _), blk_alloc h0 _, h1⟩
theorem QSt.go {w w1 w2 : World} {s : ByteArray} {t1 t2 t3 t4 t5 t6 t7 t8 x y : Int} {z : Bool} (h : QSt w w1 s t1 t2 t3 t4 t5 t6 t7 t8 x y z) (hb : Below w1.heap.size w1 w2) : QSt w w2 s t1 t2 t3 t4 t5 t6 t7 t8 x y z :=
  ⟨below_then h.below h.below.size hb, blk_below h.t hb, blk_below h.r hb⟩
theorem QSt.facts {w w1 : World} {s : ByteArray} {t1 t2 t3 t4 t5 t6 t7 t8 x y : Int} {z : Bool} (h : QSt w w1 s t1 t2 t3 t4 t5 t6 t7 t8 x y z) : w1.cell? ⟨w.heap.size, 0, none⟩ = some (.string s) ∧ w1.cell? ⟨w.heap.size, 1, none⟩ = some (.int .i64 t1) ∧ w1.cell? ⟨w.heap.size, 2, none⟩ = some (.int .i64 t2) ∧ w1.cell? ⟨w.heap.size, 3, none⟩ = some (.int .i64 t3) ∧ w1.cell? ⟨w.heap.size, 4, none⟩ = some (.int .i64 t4) ∧ w1.cell? ⟨w.heap.size, 5, none⟩ = some (.int .i64 t5) ∧ w1.cell? ⟨w.heap.size, 6, none⟩ = some (.int .i64 t6) ∧ w1.cell? ⟨w.heap.size, 7, none⟩ = some (.int .i64 t7) ∧ w1.cell? ⟨w.heap.size, 8, none⟩ = some (.int .i64 t8) ∧ w1.cell? ⟨(w.heap.size + 1), 0, none⟩ = some (.int .i64 x) ∧ w1.cell? ⟨(w.heap.size + 1), 1, none⟩ = some (.int .i64 y) ∧ w1.cell? ⟨(w.heap.size + 1), 2, none⟩ = some (.bool z) :=
  ⟨(blk_cell h.t 0).trans rfl, (blk_cell h.t 1).trans rfl, (blk_cell h.t 2).trans rfl, (blk_cell h.t 3).trans rfl, (blk_cell h.t 4).trans rfl, (blk_cell h.t 5).trans rfl, (blk_cell h.t 6).trans rfl, (blk_cell h.t 7).trans rfl, (blk_cell h.t 8).trans rfl, (blk_cell h.r 0).trans rfl, (blk_cell h.r 1).trans rfl, (blk_cell h.r 2).trans rfl⟩
theorem QSt.far {w w1 : World} {s : ByteArray} {t1 t2 t3 t4 t5 t6 t7 t8 x y : Int} {z : Bool} (h : QSt w w1 s t1 t2 t3 t4 t5 t6 t7 t8 x y z) {p : Addr} (hp : w.heap.size + 1 < p.block) (u : Value) : QSt w (w1.setCell p u) s t1 t2 t3 t4 t5 t6 t7 t8 x y z :=
  ⟨h.below.setCell (by omega) u, (Below.heap_setCell w1 p u _ (by omega)).trans h.t, (Below.heap_setCell w1 p u _ (by omega)).trans h.r⟩
end Go.Proofs.YtfklhpdnbbefbaaDoor.Px
