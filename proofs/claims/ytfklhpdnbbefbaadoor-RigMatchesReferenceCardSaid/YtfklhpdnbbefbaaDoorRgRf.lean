/-
  RigMatchesReference walked by hand: the rig beside its reference.
-/
import Derived.Test.YtfklhpdnbbefbaaDoorRgQs
import Derived.Test.YtfklhpdnbbefbaaDoorRgRp
import Derived.Deep.RegionHeld3
namespace Go.Proofs.YtfklhpdnbbefbaaDoor.Px
open Go.RowKit Go.Proofs.YtfklhpdnbbefbaaDoorW.PrintWords Go.Proofs.YtfklhpdnbbefbaaDoorW.PrintLast Go.Proofs.YtfklhpdnbbefbaaDoor.Rg Go.Proofs.YtfklhpdnbbefbaaDoor.Lx
set_option linter.unusedVariables false
set_option linter.unusedSimpArgs false
theorem cell_bel {w1 w2 : World} {a : Addr} {v : Value} (h : w1.cell? a = some v) (hb : Below w1.heap.size w1 w2) : w2.cell? a = some v :=
  (World.cell?_of_block (hb.block a.block (World.block_lt_of_cell? w1 a h))).trans h
set_option maxHeartbeats 8000000 in
set_option maxRecDepth 1000000 in
theorem match_calls (s : ByteArray) (t1 t2 t3 t4 t5 t6 t7 t8 x y : Int) (z : Bool) (c f g : Int) (w : World) :
    Calls Tryd.prog 3 #[.agg #[.string s, .int .i64 t1, .int .i64 t2, .int .i64 t3, .int .i64 t4, .int .i64 t5, .int .i64 t6, .int .i64 t7, .int .i64 t8], .agg #[.int .i64 x, .int .i64 y, .bool z], .int .i64 c, .int .i64 f, .int .i64 g] w fun e w' => e = .returned (.bool true) ∧ Below w.heap.size w w' := by
  go_enter Tryd.func3, Tryd.ntmps3
  go_upto_region 1 with (fail)
  have S0 := Lib.hid (QSt.start w s t1 t2 t3 t4 t5 t6 t7 t8 x y z)
  generalize ((w.alloc (.cells #[.string s, .int .i64 t1, .int .i64 t2, .int .i64 t3, .int .i64 t4, .int .i64 t5, .int .i64 t6, .int .i64 t7, .int .i64 t8] 25)).alloc (.cells #[.int .i64 x, .int .i64 y, .bool z] 27)) = w0 at *
  go_wp2_with fail
  refine (observatorylaw14_head.calls true _ rfl).mono ?_
  rintro e w1 ⟨rfl, hb⟩
  have S1 := Lib.hid (S0.out.go hb)
  clear hb S0
  obtain ⟨f0, f1, f2, f3, f4, f5, f6, f7, f8, f9, f10, f11⟩ := S1.out.facts
  go_wp2_with fail
  by_cases h60 : (s.size : Int) ≤ 60
  · obtain ⟨K, hK⟩ := name_ev s (by omega)
    have hk : ∀ j, K + 102 ≤ j → observatoryref08_Name.f j s = some (idB s) := fun j hj => hK j (by omega)
    have hT1 := turn_eq s t1 t2 t3 t4 t5 t6 t7 t8 f g
    have hT2 := rturn_eq (k := K + 102) (hk _ (by omega)) t1 t2 t3 t4 t5 t6 t7 t8 f g
    have hP1 := prep_eq s t1 t2 t3 t4 t5 t6 t7 t8 x y z c f
    have hP2 := rprep_eq (k := K + 102) hk (by omega) t1 t2 t3 t4 t5 t6 t7 t8 x y z c f
    have hV1 := valid_eq s t1 t2 t3 t4 t5 t6 t7 t8 x y z
    have hV2 := rvalid_eq (k := K + 102) (hk _ (Nat.le_refl _)) t1 t2 t3 t4 t5 t6 t7 t8 x y z
    generalize (if TurnOk s t1 t2 t3 f g then (turnN t3 f g, (0 : Int)) else (0, 1)) = U at hT1 hT2
    generalize prepP s t1 t2 t3 x y z c f = P at hP1 hP2
    generalize decide (ValOk s t1 t2 t3 x y) = V at hV1 hV2
    obtain ⟨u1, u2⟩ := U
    obtain ⟨p1, p2, p3, p4, p5⟩ := P
    have HT1 := Lib.hid hT1
    have HT2 := Lib.hid hT2
    have HP1 := Lib.hid hP1
    have HP2 := Lib.hid hP2
    have HV1 := Lib.hid hV1
    have HV2 := Lib.hid hV2
    clear hT1 hT2 hP1 hP2 hV1 hV2 hk hK
    refine (observatorylaw14_few.calls s t1 t2 t3 t4 t5 t6 t7 t8 true _ (by unfold observatorylaw14_few.f; rw [decide_eq_true h60])).mono ?_
    rintro e w2 ⟨rfl, hb⟩
    have S2 := Lib.hid (S1.out.go hb)
    clear hb S1 f0 f1 f2 f3 f4 f5 f6 f7 f8 f9 f10 f11
    obtain ⟨f0, f1, f2, f3, f4, f5, f6, f7, f8, f9, f10, f11⟩ := S2.out.facts
    go_wp2_with fail
    refine (rig_Turn.calls _ _ _ _ _ _ _ _ _ _ _ u1 u2 _ HT1.out).mono ?_
    rintro e w3 ⟨rfl, hb⟩
    have S3 := Lib.hid (S2.out.go hb)
    clear hb S2 f0 f1 f2 f3 f4 f5 f6 f7 f8 f9 f10 f11
    obtain ⟨f0, f1, f2, f3, f4, f5, f6, f7, f8, f9, f10, f11⟩ := S3.out.facts
    go_wp2_with fail
    refine (observatoryref14_Turn.calls _ _ _ _ _ _ _ _ _ _ _ _ u1 u2 _ HT2.out).mono ?_
    rintro e w4 ⟨rfl, hb⟩
    have S4 := Lib.hid (S3.out.go hb)
    clear hb S3 f0 f1 f2 f3 f4 f5 f6 f7 f8 f9 f10 f11
    obtain ⟨f0, f1, f2, f3, f4, f5, f6, f7, f8, f9, f10, f11⟩ := S4.out.facts
    go_wp2_with fail
    refine (rig_Prepare.calls _ _ _ _ _ _ _ _ _ _ _ _ _ _ p1 p2 p3 p4 p5 _ HP1.out).mono ?_
    rintro e w5 ⟨rfl, hb⟩
    have S5 := Lib.hid (S4.out.go hb)
    clear hb S4 f0 f1 f2 f3 f4 f5 f6 f7 f8 f9 f10 f11
    obtain ⟨f0, f1, f2, f3, f4, f5, f6, f7, f8, f9, f10, f11⟩ := S5.out.facts
    go_upto_region 7 with (fail)
    have s6 := S5.out.go (below_new (Below.refl _ _) (.cells #[.int .i64 p1, .int .i64 p2, .bool p3] 27) (Nat.le_refl _))
    have n6 := blk_new w5 (.cells #[.int .i64 p1, .int .i64 p2, .bool p3] 27)
    clear S5 f0 f1 f2 f3 f4 f5 f6 f7 f8 f9 f10 f11
    generalize w5.alloc (.cells #[.int .i64 p1, .int .i64 p2, .bool p3] 27) = w6 at *
    generalize w5.heap.size = g16 at *
    have S6 := Lib.hid s6
    have N6 := Lib.hid n6
    clear s6 n6
    obtain ⟨f0, f1, f2, f3, f4, f5, f6, f7, f8, f9, f10, f11⟩ := S6.out.facts
    go_wp2_with fail
    refine (observatoryref14_Prepare.calls _ _ _ _ _ _ _ _ _ _ _ _ _ _ _ p1 p2 p3 p4 p5 _ HP2.out).mono ?_
    rintro e w7 ⟨rfl, hb⟩
    have S7 := Lib.hid (S6.out.go hb)
    have N7 := Lib.hid (blk_below N6.out hb)
    clear hb S6 N6 f0 f1 f2 f3 f4 f5 f6 f7 f8 f9 f10 f11
    obtain ⟨f0, f1, f2, f3, f4, f5, f6, f7, f8, f9, f10, f11⟩ := S7.out.facts
    go_upto_region 8 with (fail)
    have s8 := S7.out.go (below_new (Below.refl _ _) (.cells #[.int .i64 p1, .int .i64 p2, .bool p3] 27) (Nat.le_refl _))
    have n8 := blk_alloc N7.out (.cells #[.int .i64 p1, .int .i64 p2, .bool p3] 27)
    have m8 := blk_new w7 (.cells #[.int .i64 p1, .int .i64 p2, .bool p3] 27)
    clear S7 N7 f0 f1 f2 f3 f4 f5 f6 f7 f8 f9 f10 f11
    generalize w7.alloc (.cells #[.int .i64 p1, .int .i64 p2, .bool p3] 27) = w8 at *
    generalize w7.heap.size = g19 at *
    have S8 := Lib.hid s8
    have N8 := Lib.hid n8
    have M8 := Lib.hid m8
    clear s8 n8 m8
    obtain ⟨f0, f1, f2, f3, f4, f5, f6, f7, f8, f9, f10, f11⟩ := S8.out.facts
    have a0 : w8.cell? ⟨g16, 0, none⟩ = some (.int .i64 p1) := (blk_cell N8.out 0).trans rfl
    have a1 : w8.cell? ⟨g16, 1, none⟩ = some (.int .i64 p2) := (blk_cell N8.out 1).trans rfl
    have a2 : w8.cell? ⟨g16, 2, none⟩ = some (.bool p3) := (blk_cell N8.out 2).trans rfl
    have k0 : w8.cell? ⟨g19, 0, none⟩ = some (.int .i64 p1) := (blk_cell M8.out 0).trans rfl
    have k1 : w8.cell? ⟨g19, 1, none⟩ = some (.int .i64 p2) := (blk_cell M8.out 1).trans rfl
    have k2 : w8.cell? ⟨g19, 2, none⟩ = some (.bool p3) := (blk_cell M8.out 2).trans rfl
    go_region_held3 (fun w' => w'.cell? ⟨w.heap.size, 0, none⟩ = some (.string s) ∧ w'.cell? ⟨w.heap.size, 1, none⟩ = some (.int .i64 t1) ∧ w'.cell? ⟨w.heap.size, 2, none⟩ = some (.int .i64 t2) ∧ w'.cell? ⟨w.heap.size, 3, none⟩ = some (.int .i64 t3) ∧ w'.cell? ⟨w.heap.size, 4, none⟩ = some (.int .i64 t4) ∧ w'.cell? ⟨w.heap.size, 5, none⟩ = some (.int .i64 t5) ∧ w'.cell? ⟨w.heap.size, 6, none⟩ = some (.int .i64 t6) ∧ w'.cell? ⟨w.heap.size, 7, none⟩ = some (.int .i64 t7) ∧ w'.cell? ⟨w.heap.size, 8, none⟩ = some (.int .i64 t8) ∧ w'.cell? ⟨w.heap.size + 1, 0, none⟩ = some (.int .i64 x) ∧ w'.cell? ⟨w.heap.size + 1, 1, none⟩ = some (.int .i64 y) ∧ w'.cell? ⟨w.heap.size + 1, 2, none⟩ = some (.bool z) ∧ w'.cell? ⟨g16, 0, none⟩ = some (.int .i64 p1) ∧ w'.cell? ⟨g16, 1, none⟩ = some (.int .i64 p2) ∧ w'.cell? ⟨g16, 2, none⟩ = some (.bool p3) ∧ w'.cell? ⟨g19, 0, none⟩ = some (.int .i64 p1) ∧ w'.cell? ⟨g19, 1, none⟩ = some (.int .i64 p2) ∧ w'.cell? ⟨g19, 2, none⟩ = some (.bool p3)) (go_keep) (first | (go_at_call 15; refine (rig_Valid.calls _ _ _ _ _ _ _ _ _ _ _ _ V _ HV1.out).mono ?_; rintro e w' ⟨rfl, hb⟩; have xa0 : w'.cell? ⟨w.heap.size, 0, none⟩ = some (.string s) := cell_bel (by first | assumption | exact xb0 | exact f0 | simpa using xb0 | simpa using f0) hb; have xa1 : w'.cell? ⟨w.heap.size, 1, none⟩ = some (.int .i64 t1) := cell_bel (by first | assumption | exact xb1 | exact f1 | simpa using xb1 | simpa using f1) hb; have xa2 : w'.cell? ⟨w.heap.size, 2, none⟩ = some (.int .i64 t2) := cell_bel (by first | assumption | exact xb2 | exact f2 | simpa using xb2 | simpa using f2) hb; have xa3 : w'.cell? ⟨w.heap.size, 3, none⟩ = some (.int .i64 t3) := cell_bel (by first | assumption | exact xb3 | exact f3 | simpa using xb3 | simpa using f3) hb; have xa4 : w'.cell? ⟨w.heap.size, 4, none⟩ = some (.int .i64 t4) := cell_bel (by first | assumption | exact xb4 | exact f4 | simpa using xb4 | simpa using f4) hb; have xa5 : w'.cell? ⟨w.heap.size, 5, none⟩ = some (.int .i64 t5) := cell_bel (by first | assumption | exact xb5 | exact f5 | simpa using xb5 | simpa using f5) hb; have xa6 : w'.cell? ⟨w.heap.size, 6, none⟩ = some (.int .i64 t6) := cell_bel (by first | assumption | exact xb6 | exact f6 | simpa using xb6 | simpa using f6) hb; have xa7 : w'.cell? ⟨w.heap.size, 7, none⟩ = some (.int .i64 t7) := cell_bel (by first | assumption | exact xb7 | exact f7 | simpa using xb7 | simpa using f7) hb; have xa8 : w'.cell? ⟨w.heap.size, 8, none⟩ = some (.int .i64 t8) := cell_bel (by first | assumption | exact xb8 | exact f8 | simpa using xb8 | simpa using f8) hb; have xa9 : w'.cell? ⟨w.heap.size + 1, 0, none⟩ = some (.int .i64 x) := cell_bel (by first | assumption | exact xb9 | exact f9 | simpa using xb9 | simpa using f9) hb; have xa10 : w'.cell? ⟨w.heap.size + 1, 1, none⟩ = some (.int .i64 y) := cell_bel (by first | assumption | exact xb10 | exact f10 | simpa using xb10 | simpa using f10) hb; have xa11 : w'.cell? ⟨w.heap.size + 1, 2, none⟩ = some (.bool z) := cell_bel (by first | assumption | exact xb11 | exact f11 | simpa using xb11 | simpa using f11) hb; have xa12 : w'.cell? ⟨g16, 0, none⟩ = some (.int .i64 p1) := cell_bel (by first | assumption | exact xb12 | exact a0 | simpa using xb12 | simpa using a0) hb; have xa13 : w'.cell? ⟨g16, 1, none⟩ = some (.int .i64 p2) := cell_bel (by first | assumption | exact xb13 | exact a1 | simpa using xb13 | simpa using a1) hb; have xa14 : w'.cell? ⟨g16, 2, none⟩ = some (.bool p3) := cell_bel (by first | assumption | exact xb14 | exact a2 | simpa using xb14 | simpa using a2) hb; have xa15 : w'.cell? ⟨g19, 0, none⟩ = some (.int .i64 p1) := cell_bel (by first | assumption | exact xb15 | exact k0 | simpa using xb15 | simpa using k0) hb; have xa16 : w'.cell? ⟨g19, 1, none⟩ = some (.int .i64 p2) := cell_bel (by first | assumption | exact xb16 | exact k1 | simpa using xb16 | simpa using k1) hb; have xa17 : w'.cell? ⟨g19, 2, none⟩ = some (.bool p3) := cell_bel (by first | assumption | exact xb17 | exact k2 | simpa using xb17 | simpa using k2) hb; have HBA := Lib.hid hb; clear hb) | (go_at_call 16; refine (observatoryref14_Valid.calls _ _ _ _ _ _ _ _ _ _ _ _ _ V _ HV2.out).mono ?_; rintro e w' ⟨rfl, hb⟩; have xb0 : w'.cell? ⟨w.heap.size, 0, none⟩ = some (.string s) := cell_bel (by first | assumption | exact xa0 | exact f0 | simpa using xa0 | simpa using f0) hb; have xb1 : w'.cell? ⟨w.heap.size, 1, none⟩ = some (.int .i64 t1) := cell_bel (by first | assumption | exact xa1 | exact f1 | simpa using xa1 | simpa using f1) hb; have xb2 : w'.cell? ⟨w.heap.size, 2, none⟩ = some (.int .i64 t2) := cell_bel (by first | assumption | exact xa2 | exact f2 | simpa using xa2 | simpa using f2) hb; have xb3 : w'.cell? ⟨w.heap.size, 3, none⟩ = some (.int .i64 t3) := cell_bel (by first | assumption | exact xa3 | exact f3 | simpa using xa3 | simpa using f3) hb; have xb4 : w'.cell? ⟨w.heap.size, 4, none⟩ = some (.int .i64 t4) := cell_bel (by first | assumption | exact xa4 | exact f4 | simpa using xa4 | simpa using f4) hb; have xb5 : w'.cell? ⟨w.heap.size, 5, none⟩ = some (.int .i64 t5) := cell_bel (by first | assumption | exact xa5 | exact f5 | simpa using xa5 | simpa using f5) hb; have xb6 : w'.cell? ⟨w.heap.size, 6, none⟩ = some (.int .i64 t6) := cell_bel (by first | assumption | exact xa6 | exact f6 | simpa using xa6 | simpa using f6) hb; have xb7 : w'.cell? ⟨w.heap.size, 7, none⟩ = some (.int .i64 t7) := cell_bel (by first | assumption | exact xa7 | exact f7 | simpa using xa7 | simpa using f7) hb; have xb8 : w'.cell? ⟨w.heap.size, 8, none⟩ = some (.int .i64 t8) := cell_bel (by first | assumption | exact xa8 | exact f8 | simpa using xa8 | simpa using f8) hb; have xb9 : w'.cell? ⟨w.heap.size + 1, 0, none⟩ = some (.int .i64 x) := cell_bel (by first | assumption | exact xa9 | exact f9 | simpa using xa9 | simpa using f9) hb; have xb10 : w'.cell? ⟨w.heap.size + 1, 1, none⟩ = some (.int .i64 y) := cell_bel (by first | assumption | exact xa10 | exact f10 | simpa using xa10 | simpa using f10) hb; have xb11 : w'.cell? ⟨w.heap.size + 1, 2, none⟩ = some (.bool z) := cell_bel (by first | assumption | exact xa11 | exact f11 | simpa using xa11 | simpa using f11) hb; have xb12 : w'.cell? ⟨g16, 0, none⟩ = some (.int .i64 p1) := cell_bel (by first | assumption | exact xa12 | exact a0 | simpa using xa12 | simpa using a0) hb; have xb13 : w'.cell? ⟨g16, 1, none⟩ = some (.int .i64 p2) := cell_bel (by first | assumption | exact xa13 | exact a1 | simpa using xa13 | simpa using a1) hb; have xb14 : w'.cell? ⟨g16, 2, none⟩ = some (.bool p3) := cell_bel (by first | assumption | exact xa14 | exact a2 | simpa using xa14 | simpa using a2) hb; have xb15 : w'.cell? ⟨g19, 0, none⟩ = some (.int .i64 p1) := cell_bel (by first | assumption | exact xa15 | exact k0 | simpa using xa15 | simpa using k0) hb; have xb16 : w'.cell? ⟨g19, 1, none⟩ = some (.int .i64 p2) := cell_bel (by first | assumption | exact xa16 | exact k1 | simpa using xa16 | simpa using k1) hb; have xb17 : w'.cell? ⟨g19, 2, none⟩ = some (.bool p3) := cell_bel (by first | assumption | exact xa17 | exact k2 | simpa using xa17 | simpa using k2) hb; have HBB := Lib.hid hb; clear hb))
    all_goals (
      have z1 := below_drew1 S8.out.below
      have z3 : Below w.heap.size w w' := by
        first
          | exact below_then (below_then z1 z1.size HBA.out) (below_then z1 z1.size HBA.out).size HBB.out
          | exact below_then (below_then z1 z1.size HBB.out) (below_then z1 z1.size HBB.out).size HBA.out
      have Z3 := Lib.hid z3
      clear z1 z3
      go_wp2_with fail
      go_ret
      exact ⟨rfl, Z3.out⟩)
  · refine (observatorylaw14_few.calls s t1 t2 t3 t4 t5 t6 t7 t8 false _ (by unfold observatorylaw14_few.f; rw [decide_eq_false h60])).mono ?_
    rintro e w2 ⟨rfl, hb⟩
    have S2 := Lib.hid (S1.out.go hb)
    clear hb
    go_wp2_with fail
    go_ret
    exact ⟨rfl, S2.out.below⟩
end Go.Proofs.YtfklhpdnbbefbaaDoor.Px
