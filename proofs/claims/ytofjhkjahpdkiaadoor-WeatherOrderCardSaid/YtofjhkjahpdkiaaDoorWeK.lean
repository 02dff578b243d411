/-
  weather's Parse: the deferred closure.
-/
import Derived.Test.YtofjhkjahpdkiaaDoorWeI0
import Derived.Defers
import Derived.Recover
namespace Go.Proofs.YtofjhkjahpdkiaaDoor.We
open Go.RowKit Go.MapKept Go.Proofs.YtofjhkjahpdkiaaDoorW.PrintWords Go.Proofs.YtofjhkjahpdkiaaDoor.Px
set_option linter.unusedVariables false
set_option linter.unusedSimpArgs false
theorem wpS_frame {P : Program} {c : Code} {Q : Exit → Act → List Frame → World → Prop} {a a' : Act} {cs : List Frame} {w : World} (h : a = a') (h2 : c.wpS P Q a' cs w) : c.wpS P Q a cs w := h ▸ h2
/-- Behind the door: the named results. -/
structure OSt (base : World) (v : Value) (x y : Int) (w : World) : Prop where
  below : Below base.heap.size base w
  o : w.heap[base.heap.size + 1]? = some (.cells #[v] 22 (0, 0))
  e : w.heap[base.heap.size + 1 + 1]? = some (.cells #[.int .i64 x] 27 (0, 0))
  a : w.heap[base.heap.size + 1 + 1 + 1]? = some (.cells #[.int .i64 y] 3 (0, 0))
theorem OSt.drew {base : World} {v : Value} {x y : Int} {w : World} (h : OSt base v x y w) : OSt base v x y w.drew := ⟨h.below.drew, h.o, h.e, h.a⟩
theorem OSt.alloc {base : World} {v : Value} {x y : Int} {w : World} (h : OSt base v x y w) (o : Obj) : OSt base v x y (w.alloc o) :=
  ⟨h.below.alloc h.below.size o, blk_alloc h.o o, blk_alloc h.e o, blk_alloc h.a o⟩
theorem OSt.sets {base : World} {v v' : Value} {x y x' y' : Int} {w : World} (h : OSt base v x y w) : OSt base v' x' y' (((w.setCell ⟨base.heap.size + 1, 0, none⟩ v').setCell ⟨base.heap.size + 1 + 1, 0, none⟩ (.int .i64 x')).setCell ⟨base.heap.size + 1 + 1 + 1, 0, none⟩ (.int .i64 y')) :=
  ⟨((h.below.setCell (by show base.heap.size ≤ base.heap.size + 1; omega) _).setCell (by show base.heap.size ≤ base.heap.size + 1 + 1; omega) _).setCell (by show base.heap.size ≤ base.heap.size + 1 + 1 + 1; omega) _,
   blk_far (blk_far ((blk_set h.o 0 _).trans rfl) (by show base.heap.size + 1 ≠ base.heap.size + 1 + 1; omega) _) (by show base.heap.size + 1 ≠ base.heap.size + 1 + 1 + 1; omega) _,
   blk_far ((blk_set (blk_far h.e (by show base.heap.size + 1 + 1 ≠ base.heap.size + 1; omega) _) 0 _).trans rfl) (by show base.heap.size + 1 + 1 ≠ base.heap.size + 1 + 1 + 1; omega) _,
   (blk_set (blk_far (blk_far h.a (by show base.heap.size + 1 + 1 + 1 ≠ base.heap.size + 1; omega) _) (by show base.heap.size + 1 + 1 + 1 ≠ base.heap.size + 1 + 1; omega) _) 0 _).trans rfl⟩
theorem assert_yes (x y : Int) (w : World) : Sem.run Tryd.prog (Instr.typeAssert (.iface 56 (.agg #[.int .i64 x, .int .i64 y])) 20 56 true) w = .ok (.tuple #[.agg #[.int .i64 x, .int .i64 y], .bool true]) w := by
  simp [Instr.typeAssert, run_underlying Tryd.underlying56]
theorem assert_no (w : World) : Sem.run Tryd.prog (Instr.typeAssert .nilIface 20 56 true) w = .ok (.tuple #[.agg #[.int .i64 0, .int .i64 0], .bool false]) w := by
  have hz : Sem.run Tryd.prog (zeroValue 56) w = .ok (.agg #[.int .i64 0, .int .i64 0]) w := by kernel_rfl
  simp [Instr.typeAssert, run_underlying Tryd.underlying56, hz, Result.andThen]
set_option maxHeartbeats 1000000 in
set_option maxRecDepth 1000000 in
theorem catch_fail (base : World) (x y : Int) (w : World) (hD : DSt base w) :
    CallsD Tryd.prog 26 #[.pointer (some ⟨base.heap.size + 1, 0, none⟩), .pointer (some ⟨base.heap.size + 1 + 1, 0, none⟩), .pointer (some ⟨base.heap.size + 1 + 1 + 1, 0, none⟩)] (.panicking (failV x y)) w fun e u' w' =>
      e = .returned (.tuple #[]) ∧ u' = .panicking [{ v := .iface 56 (.agg #[.int .i64 x, .int .i64 y]), recovered := true }] ∧ OSt base (.slice none 0 0) x y w' := by
  have hD' := blk_lt hD.a
  refine callsD_of_wpS Tryd.func26 rfl fun c₀ cs hu => ?_
  apply wpS_seq
  apply wpS_region
  unfold failV at hu
  have hta := assert_yes x y
  simp [wpOpsS, go_sem, recoverD, hu, hta, Tryd.ntmps26, Exit.thenS]
  refine wpS_frame (a' := { tmps := #[.pointer (some ⟨base.heap.size + 1, 0, none⟩), .pointer (some ⟨base.heap.size + 1 + 1, 0, none⟩), .pointer (some ⟨base.heap.size + 1 + 1 + 1, 0, none⟩), .pointer (some ⟨w.heap.size, 0, none⟩), .bool true, .tuple #[.agg #[.int .i64 x, .int .i64 y], .bool true], .iface 56 (.agg #[.int .i64 x, .int .i64 y]), .tuple #[.agg #[.int .i64 x, .int .i64 y], .bool true], .agg #[.int .i64 x, .int .i64 y], .bool true, undef, undef, undef, undef, undef], defers := [] }) (by kernel_rfl) ?_
  refine wpS_of_wp ?_
  obtain ⟨hb, ⟨v, ho⟩, he, ha⟩ := hD
  have hO := (OSt.mk hb ho he ha).alloc (.cells #[.int .i64 x, .int .i64 y] 56)
  have hf := blk_new w (.cells #[.int .i64 x, .int .i64 y] 56)
  clear hb ho he ha
  have f0 := (blk_cell hf 0).trans (show _ = some (Value.int .i64 x) from rfl)
  have f1 := (blk_cell hf 1).trans (show _ = some (Value.int .i64 y) from rfl)
  have o0 := (blk_cell hO.o 0).trans (show _ = some v from rfl)
  have o1 := blk_frozen hO.o 0
  have e0 := (blk_cell hO.e 0).trans (show _ = some (Value.int .i64 0) from rfl)
  have e1 := blk_frozen hO.e 0
  have a0 := (blk_cell hO.a 0).trans (show _ = some (Value.int .i64 0) from rfl)
  have a1 := blk_frozen hO.a 0
  have HO := Lib.hid hO
  have hsz : base.heap.size + 1 + 1 + 1 < w.heap.size := by have := blk_lt hO.a; have h2 := hD'; omega
  clear hO hf
  generalize w.alloc (.cells #[.int .i64 x, .int .i64 y] 56) = w1 at *
  generalize w.heap.size = k at *
  go_wp2_with fail
  go_region
  exact ⟨rfl, _, rfl, .tuple #[], by simp [results, Tryd.results26], rfl, rfl, HO.out.sets.drew⟩
set_option maxHeartbeats 1000000 in
set_option maxRecDepth 1000000 in
theorem catch_idle (base : World) (v : Value) (w : World) (hO : OSt base v 0 0 w) :
    CallsD Tryd.prog 26 #[.pointer (some ⟨base.heap.size + 1, 0, none⟩), .pointer (some ⟨base.heap.size + 1 + 1, 0, none⟩), .pointer (some ⟨base.heap.size + 1 + 1 + 1, 0, none⟩)] .returning w fun e u' w' =>
      e = .returned (.tuple #[]) ∧ u' = .returning ∧ w' = w.alloc (.cells #[.int .i64 0, .int .i64 0] 56) := by
  refine callsD_of_wpS Tryd.func26 rfl fun c₀ cs hu => ?_
  apply wpS_seq
  apply wpS_region
  have hta := assert_no
  simp [wpOpsS, go_sem, recoverD, hu, hta, Tryd.ntmps26, Exit.thenS]
  refine wpS_of_wp ?_
  go_wp2_with fail
  exact ⟨rfl, .returning, by cases c₀; cases hu; rfl, .tuple #[], by simp [results, Tryd.results26], rfl, rfl, rfl⟩
end Go.Proofs.YtofjhkjahpdkiaaDoor.We
