/-
  The examples of the rig's chapter hold.
-/
import Derived.Test.YtfklhpdnbbefbaaDoorRgP
import Derived.Test.YtfklhpdnbbefbaaDoorPxxH
namespace Go.Proofs.YtfklhpdnbbefbaaDoor.Px
open Go.RowKit Go.Proofs.YtfklhpdnbbefbaaDoorW.PrintWords Go.Proofs.YtfklhpdnbbefbaaDoorW.PrintLast Go.Proofs.YtfklhpdnbbefbaaDoor.Rg Go.Proofs.YtfklhpdnbbefbaaDoor.Lx
set_option linter.unusedVariables false
set_option linter.unusedSimpArgs false
def observatorylaw14_head.f : Option Bool := some true
theorem hx1 : rig_Prepare.f ⟨#[116]⟩ 0 5 5 0 0 0 0 0 4 0 false 19 0 = some (0, 0, false, 0, 21) := by kernel_rfl
theorem hx2 : rig_Prepare.f ⟨#[116]⟩ 0 3 5 0 0 0 0 0 4 0 true 4 1 = some (0, 0, false, 0, 20) := by kernel_rfl
theorem hx3 : rig_Prepare.f ⟨#[116]⟩ 0 3 5 0 0 0 0 0 4 0 false 32 0 = some (0, 0, false, 0, 1) := by kernel_rfl
theorem hx4 : observatorylaw14_prepared.f ⟨#[116]⟩ 0 3 5 0 0 0 0 0 4 0 false 6 1 6 6 = some true := by kernel_rfl
theorem hx5 : observatorylaw14_prepared.f ⟨#[116]⟩ 0 3 5 0 0 0 0 0 4 0 false 6 4 6 6 = some true := by kernel_rfl
theorem hx6 : observatorylaw14_prepared.f ⟨#[116]⟩ 0 3 5 0 0 0 0 0 4 0 false 4 3 4 4 = some true := by kernel_rfl
theorem hx7 : observatorylaw14_prepared.f ⟨#[116]⟩ 0 3 5 0 0 0 0 0 4 0 false 20 0 (-12) 48 = some true := by kernel_rfl
theorem hx8 : observatorylaw14_prepared.f ⟨#[116]⟩ 0 3 5 0 0 0 0 0 4 0 false 25 0 (-7) 33 = some true := by kernel_rfl
theorem hx9 : observatorylaw14_prepared.f ⟨#[116]⟩ 0 3 5 0 0 0 0 0 4 0 true 6 0 6 6 = some true := by kernel_rfl
theorem hx10 : rig_Valid.f ⟨#[116]⟩ 0 3 5 0 0 0 0 0 4 0 false = some true := by kernel_rfl
theorem hx11 : rig_Valid.f ⟨#[116]⟩ 0 3 5 0 0 0 0 0 49 0 false = some false := by kernel_rfl
structure HSt (w w1 : World) : Prop where
  below : Below w.heap.size w w1
  t : w1.heap[w.heap.size]? = some (.cells #[.string ⟨#[116]⟩, .int .i64 0, .int .i64 3, .int .i64 5, .int .i64 0, .int .i64 0, .int .i64 0, .int .i64 0, .int .i64 0] 25 (0, 0))
  r : w1.heap[(w.heap.size + 1)]? = some (.cells #[.int .i64 4, .int .i64 0, .bool false] 27 (0, 0))
  f : w1.heap[(w.heap.size + 1 + 1)]? = some (.cells #[.string ⟨#[116]⟩, .int .i64 0, .int .i64 5, .int .i64 5, .int .i64 0, .int .i64 0, .int .i64 0, .int .i64 0, .int .i64 0] 25 (0, 0))
  k : w1.heap[(w.heap.size + 1 + 1 + 1)]? = some (.cells #[.int .i64 4, .int .i64 0, .bool true] 27 (0, 0))
theorem HSt.start (w : World) : HSt w ((((w.alloc (.cells #[.string ⟨#[116]⟩, .int .i64 0, .int .i64 3, .int .i64 5, .int .i64 0, .int .i64 0, .int .i64 0, .int .i64 0, .int .i64 0] 25)).alloc (.cells #[.int .i64 4, .int .i64 0, .bool false] 27)).alloc (.cells #[.string ⟨#[116]⟩, .int .i64 0, .int .i64 5, .int .i64 5, .int .i64 0, .int .i64 0, .int .i64 0, .int .i64 0, .int .i64 0] 25)).alloc (.cells #[.int .i64 4, .int .i64 0, .bool true] 27)) := by
  have s1 : (w.alloc (.cells #[.string ⟨#[116]⟩, .int .i64 0, .int .i64 3, .int .i64 5, .int .i64 0, .int .i64 0, .int .i64 0, .int .i64 0, .int .i64 0] 25)).heap.size = w.heap.size + 1 := by simp
  have s2 : ((w.alloc (.cells #[.string ⟨#[116]⟩, .int .i64 0, .int .i64 3, .int .i64 5, .int .i64 0, .int .i64 0, .int .i64 0, .int .i64 0, .int .i64 0] 25)).alloc (.cells #[.int .i64 4, .int .i64 0, .bool false] 27)).heap.size = w.heap.size + 1 + 1 := by simp
  have s3 : (((w.alloc (.cells #[.string ⟨#[116]⟩, .int .i64 0, .int .i64 3, .int .i64 5, .int .i64 0, .int .i64 0, .int .i64 0, .int .i64 0, .int .i64 0] 25)).alloc (.cells #[.int .i64 4, .int .i64 0, .bool false] 27)).alloc (.cells #[.string ⟨#[116]⟩, .int .i64 0, .int .i64 5, .int .i64 5, .int .i64 0, .int .i64 0, .int .i64 0, .int .i64 0, .int .i64 0] 25)).heap.size = w.heap.size + 1 + 1 + 1 := by simp
  have h0 := blk_new w (.cells #[.string ⟨#[116]⟩, .int .i64 0, .int .i64 3, .int .i64 5, .int .i64 0, .int .i64 0, .int .i64 0, .int .i64 0, .int .i64 0] 25 (0, 0))
  have h1 := blk_new (w.alloc (.cells #[.string ⟨#[116]⟩, .int .i64 0, .int .i64 3, .int .i64 5, .int .i64 0, .int .i64 0, .int .i64 0, .int .i64 0, .int .i64 0] 25)) (.cells #[.int .i64 4, .int .i64 0, .bool false] 27 (0, 0))
  rw [s1] at h1
  have h2 := blk_new ((w.alloc (.cells #[.string ⟨#[116]⟩, .int .i64 0, .int .i64 3, .int .i64 5, .int .i64 0, .int .i64 0, .int .i64 0, .int .i64 0, .int .i64 0] 25)).alloc (.cells #[.int .i64 4, .int .i64 0, .bool false] 27)) (.cells #[.string ⟨#[116]⟩, .int .i64 0, .int .i64 5, .int .i64 5, .int .i64 0, .int .i64 0, .int .i64 0, .int .i64 0, .int .i64 0] 25 (0, 0))
  rw [s2] at h2
  have h3 := blk_new (((w.alloc (.cells #[.string ⟨#[116]⟩, .int .i64 0, .int .i64 3, .int .i64 5, .int .i64 0, .int .i64 0, .int .i64 0, .int .i64 0, .int .i64 0] 25)).alloc (.cells #[.int .i64 4, .int .i64 0, .bool false] 27)).alloc (.cells #[.string ⟨#[116]⟩, .int .i64 0, .int .i64 5, .int .i64 5, .int .i64 0, .int .i64 0, .int .i64 0, .int .i64 0, .int .i64 0] 25)) (.cells #[.int .i64 4, .int .i64 0, .bool true] 27 (0, 0))
  rw [s3] at h3
  exact ⟨below_new (below_new (below_new (below_new (Below.refl _ _) _ (Nat.le_refl _)) _ (Nat.le_refl _)) _ (Nat.le_refl _)) _ (Nat.le_refl _), blk_alloc (blk_alloc (blk_alloc h0 _) _) _, blk_alloc (blk_alloc h1 _) _, blk_alloc h2 _, h3⟩
theorem HSt.go {w w1 w2 : World} (h : HSt w w1) (hb : Below w1.heap.size w1 w2) : HSt w w2 :=
  ⟨below_then h.below h.below.size hb, blk_below h.t hb, blk_below h.r hb, blk_below h.f hb, blk_below h.k hb⟩
theorem HSt.facts {w w1 : World} (h : HSt w w1) : w1.cell? ⟨w.heap.size, 0, none⟩ = some (.string ⟨#[116]⟩) ∧ w1.cell? ⟨w.heap.size, 1, none⟩ = some (.int .i64 0) ∧ w1.cell? ⟨w.heap.size, 2, none⟩ = some (.int .i64 3) ∧ w1.cell? ⟨w.heap.size, 3, none⟩ = some (.int .i64 5) ∧ w1.cell? ⟨w.heap.size, 4, none⟩ = some (.int .i64 0) ∧ w1.cell? ⟨w.heap.size, 5, none⟩ = some (.int .i64 0) ∧ w1.cell? ⟨w.heap.size, 6, none⟩ = some (.int .i64 0) ∧ w1.cell? ⟨w.heap.size, 7, none⟩ = some (.int .i64 0) ∧ w1.cell? ⟨w.heap.size, 8, none⟩ = some (.int .i64 0) ∧ w1.cell? ⟨(w.heap.size + 1), 0, none⟩ = some (.int .i64 4) ∧ w1.cell? ⟨(w.heap.size + 1), 1, none⟩ = some (.int .i64 0) ∧ w1.cell? ⟨(w.heap.size + 1), 2, none⟩ = some (.bool false) ∧ w1.cell? ⟨(w.heap.size + 1 + 1), 0, none⟩ = some (.string ⟨#[116]⟩) ∧ w1.cell? ⟨(w.heap.size + 1 + 1), 1, none⟩ = some (.int .i64 0) ∧ w1.cell? ⟨(w.heap.size + 1 + 1), 2, none⟩ = some (.int .i64 5) ∧ w1.cell? ⟨(w.heap.size + 1 + 1), 3, none⟩ = some (.int .i64 5) ∧ w1.cell? ⟨(w.heap.size + 1 + 1), 4, none⟩ = some (.int .i64 0) ∧ w1.cell? ⟨(w.heap.size + 1 + 1), 5, none⟩ = some (.int .i64 0) ∧ w1.cell? ⟨(w.heap.size + 1 + 1), 6, none⟩ = some (.int .i64 0) ∧ w1.cell? ⟨(w.heap.size + 1 + 1), 7, none⟩ = some (.int .i64 0) ∧ w1.cell? ⟨(w.heap.size + 1 + 1), 8, none⟩ = some (.int .i64 0) ∧ w1.cell? ⟨(w.heap.size + 1 + 1 + 1), 0, none⟩ = some (.int .i64 4) ∧ w1.cell? ⟨(w.heap.size + 1 + 1 + 1), 1, none⟩ = some (.int .i64 0) ∧ w1.cell? ⟨(w.heap.size + 1 + 1 + 1), 2, none⟩ = some (.bool true) :=
  ⟨(blk_cell h.t 0).trans rfl, (blk_cell h.t 1).trans rfl, (blk_cell h.t 2).trans rfl, (blk_cell h.t 3).trans rfl, (blk_cell h.t 4).trans rfl, (blk_cell h.t 5).trans rfl, (blk_cell h.t 6).trans rfl, (blk_cell h.t 7).trans rfl, (blk_cell h.t 8).trans rfl, (blk_cell h.r 0).trans rfl, (blk_cell h.r 1).trans rfl, (blk_cell h.r 2).trans rfl, (blk_cell h.f 0).trans rfl, (blk_cell h.f 1).trans rfl, (blk_cell h.f 2).trans rfl, (blk_cell h.f 3).trans rfl, (blk_cell h.f 4).trans rfl, (blk_cell h.f 5).trans rfl, (blk_cell h.f 6).trans rfl, (blk_cell h.f 7).trans rfl, (blk_cell h.f 8).trans rfl, (blk_cell h.k 0).trans rfl, (blk_cell h.k 1).trans rfl, (blk_cell h.k 2).trans rfl⟩
set_option maxHeartbeats 8000000 in
set_option maxRecDepth 1000000 in
theorem observatorylaw14_head.calls (r : Bool) (w : World) (h : observatorylaw14_head.f = some r) :
    Calls Tryd.prog 9 #[] w fun e w' => e = .returned (.bool r) ∧ Below w.heap.size w w' := by
  obtain rfl : r = true := (Option.some.inj h).symm
  clear h
  go_enter Tryd.func9, Tryd.ntmps9
  go_upto_region 7 with (fail)
  have S0 := Lib.hid (HSt.start w)
  generalize ((((w.alloc (.cells #[.string ⟨#[116]⟩, .int .i64 0, .int .i64 3, .int .i64 5, .int .i64 0, .int .i64 0, .int .i64 0, .int .i64 0, .int .i64 0] 25)).alloc (.cells #[.int .i64 4, .int .i64 0, .bool false] 27)).alloc (.cells #[.string ⟨#[116]⟩, .int .i64 0, .int .i64 5, .int .i64 5, .int .i64 0, .int .i64 0, .int .i64 0, .int .i64 0, .int .i64 0] 25)).alloc (.cells #[.int .i64 4, .int .i64 0, .bool true] 27)) = w0 at *
  obtain ⟨f0, f1, f2, f3, f4, f5, f6, f7, f8, f9, f10, f11, f12, f13, f14, f15, f16, f17, f18, f19, f20, f21, f22, f23⟩ := S0.out.facts
  go_wp2_with fail
  refine (rig_Prepare.calls _ _ _ _ _ _ _ _ _ _ _ _ _ _ _ _ _ _ _ _ hx1).mono ?_
  rintro e w1 ⟨rfl, hb⟩
  have S1 := Lib.hid (S0.out.go hb)
  clear hb S0 f0 f1 f2 f3 f4 f5 f6 f7 f8 f9 f10 f11 f12 f13 f14 f15 f16 f17 f18 f19 f20 f21 f22 f23
  obtain ⟨f0, f1, f2, f3, f4, f5, f6, f7, f8, f9, f10, f11, f12, f13, f14, f15, f16, f17, f18, f19, f20, f21, f22, f23⟩ := S1.out.facts
  go_upto_region 8 with (fail)
  have S2 := Lib.hid (S1.out.go (below_new (Below.refl _ _) (.cells #[.int .i64 0, .int .i64 0, .bool false] 27) (Nat.le_refl _)))
  clear S1 f0 f1 f2 f3 f4 f5 f6 f7 f8 f9 f10 f11 f12 f13 f14 f15 f16 f17 f18 f19 f20 f21 f22 f23
  generalize w1.alloc (.cells #[.int .i64 0, .int .i64 0, .bool false] 27) = w2 at *
  obtain ⟨f0, f1, f2, f3, f4, f5, f6, f7, f8, f9, f10, f11, f12, f13, f14, f15, f16, f17, f18, f19, f20, f21, f22, f23⟩ := S2.out.facts
  go_wp2_with fail
  refine (rig_Prepare.calls _ _ _ _ _ _ _ _ _ _ _ _ _ _ _ _ _ _ _ _ hx2).mono ?_
  rintro e w3 ⟨rfl, hb⟩
  have S3 := Lib.hid (S2.out.go hb)
  clear hb S2 f0 f1 f2 f3 f4 f5 f6 f7 f8 f9 f10 f11 f12 f13 f14 f15 f16 f17 f18 f19 f20 f21 f22 f23
  obtain ⟨f0, f1, f2, f3, f4, f5, f6, f7, f8, f9, f10, f11, f12, f13, f14, f15, f16, f17, f18, f19, f20, f21, f22, f23⟩ := S3.out.facts
  go_upto_region 9 with (fail)
  have S4 := Lib.hid (S3.out.go (below_new (Below.refl _ _) (.cells #[.int .i64 0, .int .i64 0, .bool false] 27) (Nat.le_refl _)))
  clear S3 f0 f1 f2 f3 f4 f5 f6 f7 f8 f9 f10 f11 f12 f13 f14 f15 f16 f17 f18 f19 f20 f21 f22 f23
  generalize w3.alloc (.cells #[.int .i64 0, .int .i64 0, .bool false] 27) = w4 at *
  obtain ⟨f0, f1, f2, f3, f4, f5, f6, f7, f8, f9, f10, f11, f12, f13, f14, f15, f16, f17, f18, f19, f20, f21, f22, f23⟩ := S4.out.facts
  go_wp2_with fail
  refine (rig_Prepare.calls _ _ _ _ _ _ _ _ _ _ _ _ _ _ _ _ _ _ _ _ hx3).mono ?_
  rintro e w5 ⟨rfl, hb⟩
  have S5 := Lib.hid (S4.out.go hb)
  clear hb S4 f0 f1 f2 f3 f4 f5 f6 f7 f8 f9 f10 f11 f12 f13 f14 f15 f16 f17 f18 f19 f20 f21 f22 f23
  obtain ⟨f0, f1, f2, f3, f4, f5, f6, f7, f8, f9, f10, f11, f12, f13, f14, f15, f16, f17, f18, f19, f20, f21, f22, f23⟩ := S5.out.facts
  go_upto_region 10 with (fail)
  have S6 := Lib.hid (S5.out.go (below_new (Below.refl _ _) (.cells #[.int .i64 0, .int .i64 0, .bool false] 27) (Nat.le_refl _)))
  clear S5 f0 f1 f2 f3 f4 f5 f6 f7 f8 f9 f10 f11 f12 f13 f14 f15 f16 f17 f18 f19 f20 f21 f22 f23
  generalize w5.alloc (.cells #[.int .i64 0, .int .i64 0, .bool false] 27) = w6 at *
  obtain ⟨f0, f1, f2, f3, f4, f5, f6, f7, f8, f9, f10, f11, f12, f13, f14, f15, f16, f17, f18, f19, f20, f21, f22, f23⟩ := S6.out.facts
  go_wp2_with fail
  refine (observatorylaw14_prepared.calls _ _ _ _ _ _ _ _ _ _ _ _ _ _ _ _ _ _ hx4).mono ?_
  rintro e w7 ⟨rfl, hb⟩
  have S7 := Lib.hid (S6.out.go hb)
  clear hb S6 f0 f1 f2 f3 f4 f5 f6 f7 f8 f9 f10 f11 f12 f13 f14 f15 f16 f17 f18 f19 f20 f21 f22 f23
  obtain ⟨f0, f1, f2, f3, f4, f5, f6, f7, f8, f9, f10, f11, f12, f13, f14, f15, f16, f17, f18, f19, f20, f21, f22, f23⟩ := S7.out.facts
  go_wp2_with fail
  refine (observatorylaw14_prepared.calls _ _ _ _ _ _ _ _ _ _ _ _ _ _ _ _ _ _ hx5).mono ?_
  rintro e w8 ⟨rfl, hb⟩
  have S8 := Lib.hid (S7.out.go hb)
  clear hb S7 f0 f1 f2 f3 f4 f5 f6 f7 f8 f9 f10 f11 f12 f13 f14 f15 f16 f17 f18 f19 f20 f21 f22 f23
  obtain ⟨f0, f1, f2, f3, f4, f5, f6, f7, f8, f9, f10, f11, f12, f13, f14, f15, f16, f17, f18, f19, f20, f21, f22, f23⟩ := S8.out.facts
  go_wp2_with fail
  refine (observatorylaw14_prepared.calls _ _ _ _ _ _ _ _ _ _ _ _ _ _ _ _ _ _ hx6).mono ?_
  rintro e w9 ⟨rfl, hb⟩
  have S9 := Lib.hid (S8.out.go hb)
  clear hb S8 f0 f1 f2 f3 f4 f5 f6 f7 f8 f9 f10 f11 f12 f13 f14 f15 f16 f17 f18 f19 f20 f21 f22 f23
  obtain ⟨f0, f1, f2, f3, f4, f5, f6, f7, f8, f9, f10, f11, f12, f13, f14, f15, f16, f17, f18, f19, f20, f21, f22, f23⟩ := S9.out.facts
  go_wp2_with fail
  refine (observatorylaw14_prepared.calls _ _ _ _ _ _ _ _ _ _ _ _ _ _ _ _ _ _ hx7).mono ?_
  rintro e w10 ⟨rfl, hb⟩
  have S10 := Lib.hid (S9.out.go hb)
  clear hb S9 f0 f1 f2 f3 f4 f5 f6 f7 f8 f9 f10 f11 f12 f13 f14 f15 f16 f17 f18 f19 f20 f21 f22 f23
  obtain ⟨f0, f1, f2, f3, f4, f5, f6, f7, f8, f9, f10, f11, f12, f13, f14, f15, f16, f17, f18, f19, f20, f21, f22, f23⟩ := S10.out.facts
  go_wp2_with fail
  refine (observatorylaw14_prepared.calls _ _ _ _ _ _ _ _ _ _ _ _ _ _ _ _ _ _ hx8).mono ?_
  rintro e w11 ⟨rfl, hb⟩
  have S11 := Lib.hid (S10.out.go hb)
  clear hb S10 f0 f1 f2 f3 f4 f5 f6 f7 f8 f9 f10 f11 f12 f13 f14 f15 f16 f17 f18 f19 f20 f21 f22 f23
  obtain ⟨f0, f1, f2, f3, f4, f5, f6, f7, f8, f9, f10, f11, f12, f13, f14, f15, f16, f17, f18, f19, f20, f21, f22, f23⟩ := S11.out.facts
  go_wp2_with fail
  refine (observatorylaw14_prepared.calls _ _ _ _ _ _ _ _ _ _ _ _ _ _ _ _ _ _ hx9).mono ?_
  rintro e w12 ⟨rfl, hb⟩
  have S12 := Lib.hid (S11.out.go hb)
  clear hb S11 f0 f1 f2 f3 f4 f5 f6 f7 f8 f9 f10 f11 f12 f13 f14 f15 f16 f17 f18 f19 f20 f21 f22 f23
  obtain ⟨f0, f1, f2, f3, f4, f5, f6, f7, f8, f9, f10, f11, f12, f13, f14, f15, f16, f17, f18, f19, f20, f21, f22, f23⟩ := S12.out.facts
  go_wp2_with fail
  refine (rig_Valid.calls _ _ _ _ _ _ _ _ _ _ _ _ _ _ hx10).mono ?_
  rintro e w13 ⟨rfl, hb⟩
  have S13 := Lib.hid (S12.out.go hb)
  clear hb S12 f0 f1 f2 f3 f4 f5 f6 f7 f8 f9 f10 f11 f12 f13 f14 f15 f16 f17 f18 f19 f20 f21 f22 f23
  obtain ⟨f0, f1, f2, f3, f4, f5, f6, f7, f8, f9, f10, f11, f12, f13, f14, f15, f16, f17, f18, f19, f20, f21, f22, f23⟩ := S13.out.facts
  go_wp2_with fail
  refine (rig_Valid.calls _ _ _ _ _ _ _ _ _ _ _ _ _ _ hx11).mono ?_
  rintro e w14 ⟨rfl, hb⟩
  have S14 := Lib.hid (S13.out.go hb)
  clear hb S13 f0 f1 f2 f3 f4 f5 f6 f7 f8 f9 f10 f11 f12 f13 f14 f15 f16 f17 f18 f19 f20 f21 f22 f23
  obtain ⟨f0, f1, f2, f3, f4, f5, f6, f7, f8, f9, f10, f11, f12, f13, f14, f15, f16, f17, f18, f19, f20, f21, f22, f23⟩ := S14.out.facts
  go_wp2_with fail
  go_ret
  exact ⟨rfl, S14.out.below⟩
end Go.Proofs.YtfklhpdnbbefbaaDoor.Px
