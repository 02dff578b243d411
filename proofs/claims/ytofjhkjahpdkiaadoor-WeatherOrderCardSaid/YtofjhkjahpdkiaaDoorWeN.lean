/-
  The examples of the weather's chapter hold.
-/
import Derived.Test.YtofjhkjahpdkiaaDoorWeM
import Derived.Test.YtofjhkjahpdkiaaDoorWeL
import Derived.Test.YtofjhkjahpdkiaaDoorWeQ
namespace Go.Proofs.YtofjhkjahpdkiaaDoor.We
open Go.RowKit Go.MapKept Go.Proofs.YtofjhkjahpdkiaaDoorW.PrintWords Go.Proofs.YtofjhkjahpdkiaaDoor.Px
set_option linter.unusedVariables false
set_option linter.unusedSimpArgs false
attribute [local go_sem] run_store_func run_store_nilFunc tok_f2
def hl1 : List SSp := [⟨1, 2, 300, 5, 9⟩, ⟨3, 0, 0, 9, 9⟩]
set_option maxRecDepth 1000000 in
theorem hx1 : parseP ⟨#[99, 108, 111, 117, 100, 32, 50, 32, 51, 48, 48, 32, 102, 114, 111, 109, 32, 53, 32, 117, 110, 116, 105, 108, 32, 57, 59, 32, 99, 108, 111, 115, 101, 100, 32, 102, 114, 111, 109, 32, 57, 32, 117, 110, 116, 105, 108, 32, 57, 59]⟩ = (hl1, 0, 0) := by kernel_rfl
set_option maxRecDepth 1000000 in
theorem hx2 : parseP ⟨#[115, 101, 101, 105, 110, 103, 32, 48, 32, 102, 114, 111, 109, 32, 49, 32, 117, 110, 116, 105, 108, 32, 50, 59]⟩ = ([], 9, 23) := by kernel_rfl
set_option maxRecDepth 1000000 in
theorem hx3 : parseP ⟨#[99, 108, 111, 115, 101, 100, 32, 102, 114, 111, 109, 32, 50]⟩ = ([], 6, 13) := by kernel_rfl
theorem ha5 : atP hl1 5 = (⟨1000, 1000, 300, 1000, 10, true⟩, 0) := by kernel_rfl
theorem ha9 : atP hl1 9 = (⟨1000, 1000, 300, 1000, 10, false⟩, 0) := by kernel_rfl
theorem ha10 : atP hl1 10 = (⟨1000, 1000, 1000, 1000, 10, true⟩, 0) := by kernel_rfl
theorem hm1 : weather_Moon.f 32 = some (133, 0, 0) := by kernel_rfl
theorem hb1 : weather_Background.f 15 15 = some (10, 0) := by kernel_rfl
theorem hb2 : weather_Background.f 15 31 = some (0, 0) := by kernel_rfl
theorem hb3 : weather_Background.f 15 16 = some (9, 0) := by kernel_rfl
theorem at_calls' (A0 : Option Addr) (c0 : Nat) (l : List SSp) (m : Int) (c : Cd) (x : Int) (w : World) (h : atP l m = (c, x)) (hr0 : Kd.C kSp w A0 l.length l) (hc0 : l.length ≤ c0) :
    Calls Tryd.prog 9 #[.slice A0 l.length c0, .int .i64 m] w fun e w' => e = .returned (.tuple #[.agg #[.int .i64 c.c0, .int .i64 c.c1, .int .i64 c.c2, .int .i64 c.c3, .int .i64 c.s, .bool c.o], .int .i64 x]) ∧ Below w.heap.size w w' := by
  have h2 := at_calls A0 c0 l m w hr0 hc0
  rw [h] at h2
  exact h2
attribute [local go_sem high] eqCd
set_option maxHeartbeats 8000000 in
set_option maxRecDepth 1000000 in
theorem head_calls (w : World) : Calls Tryd.prog 8 #[] w fun e w' => e = .returned (.bool true) ∧ Below w.heap.size w w' := by
  go_enter Tryd.func8, Tryd.ntmps8
  go_wp2_with fail
  refine (parse_calls _ _ _ _ _ hx1).mono ?_
  rintro e w1 ⟨v0, rfl, hR, hb⟩
  obtain ⟨A, c, rfl, hc, hC⟩ := Kd.R_reads hR
  have HB1 := Lib.hid hb
  have HC1 := Lib.hid hC
  have HCC := Lib.hid hc
  clear hR hb hC hc
  have hl : hl1.length = 2 := rfl
  go_wp2_with fail
  refine (at_calls' A c hl1 5 _ _ _ ha5 HC1.out HCC.out).mono ?_
  rintro e w2 ⟨rfl, hb⟩
  have HB2 := Lib.hid (below_alloc (below_step HB1.out hb) (.cells #[.int .i64 1000, .int .i64 1000, .int .i64 300, .int .i64 1000, .int .i64 10, .bool true] 26))
  have HC2 := Lib.hid (Kd.C_below (Kd.C_below HC1.out hb) (below_alloc (Below.refl _ _) (.cells #[.int .i64 1000, .int .i64 1000, .int .i64 300, .int .i64 1000, .int .i64 10, .bool true] 26)))
  have D0 := Lib.hid (blk_new w2 (.cells #[.int .i64 1000, .int .i64 1000, .int .i64 300, .int .i64 1000, .int .i64 10, .bool true] 26 (0, 0)))
  clear hb HB1 HC1
  go_upto_region 3 with (fail)
  generalize w2.alloc (.cells #[.int .i64 1000, .int .i64 1000, .int .i64 300, .int .i64 1000, .int .i64 10, .bool true] 26) = v2 at *
  generalize w2.heap.size = b0 at *
  go_wp2_with fail
  refine (at_calls' A c hl1 9 _ _ _ ha9 HC2.out HCC.out).mono ?_
  rintro e w3 ⟨rfl, hb⟩
  have HB3 := Lib.hid (below_alloc (below_step HB2.out hb) (.cells #[.int .i64 1000, .int .i64 1000, .int .i64 300, .int .i64 1000, .int .i64 10, .bool false] 26))
  have HC3 := Lib.hid (Kd.C_below (Kd.C_below HC2.out hb) (below_alloc (Below.refl _ _) (.cells #[.int .i64 1000, .int .i64 1000, .int .i64 300, .int .i64 1000, .int .i64 10, .bool false] 26)))
  have D0' := Lib.hid (blk_alloc (blk_below D0.out hb) (.cells #[.int .i64 1000, .int .i64 1000, .int .i64 300, .int .i64 1000, .int .i64 10, .bool false] 26))
  clear D0
  have D0 := D0'
  clear D0'
  have D1 := Lib.hid (blk_new w3 (.cells #[.int .i64 1000, .int .i64 1000, .int .i64 300, .int .i64 1000, .int .i64 10, .bool false] 26 (0, 0)))
  clear hb HB2 HC2
  go_upto_region 4 with (fail)
  generalize w3.alloc (.cells #[.int .i64 1000, .int .i64 1000, .int .i64 300, .int .i64 1000, .int .i64 10, .bool false] 26) = v3 at *
  generalize w3.heap.size = b1 at *
  go_wp2_with fail
  refine (at_calls' A c hl1 10 _ _ _ ha10 HC3.out HCC.out).mono ?_
  rintro e w4 ⟨rfl, hb⟩
  have HB4 := Lib.hid (below_alloc (below_step HB3.out hb) (.cells #[.int .i64 1000, .int .i64 1000, .int .i64 1000, .int .i64 1000, .int .i64 10, .bool true] 26))
  have HC4 := Lib.hid (Kd.C_below (Kd.C_below HC3.out hb) (below_alloc (Below.refl _ _) (.cells #[.int .i64 1000, .int .i64 1000, .int .i64 1000, .int .i64 1000, .int .i64 10, .bool true] 26)))
  have D0' := Lib.hid (blk_alloc (blk_below D0.out hb) (.cells #[.int .i64 1000, .int .i64 1000, .int .i64 1000, .int .i64 1000, .int .i64 10, .bool true] 26))
  clear D0
  have D0 := D0'
  clear D0'
  have D1' := Lib.hid (blk_alloc (blk_below D1.out hb) (.cells #[.int .i64 1000, .int .i64 1000, .int .i64 1000, .int .i64 1000, .int .i64 10, .bool true] 26))
  clear D1
  have D1 := D1'
  clear D1'
  have D2 := Lib.hid (blk_new w4 (.cells #[.int .i64 1000, .int .i64 1000, .int .i64 1000, .int .i64 1000, .int .i64 10, .bool true] 26 (0, 0)))
  clear hb HB3 HC3
  go_upto_region 5 with (fail)
  generalize w4.alloc (.cells #[.int .i64 1000, .int .i64 1000, .int .i64 1000, .int .i64 1000, .int .i64 10, .bool true] 26) = v4 at *
  generalize w4.heap.size = b2 at *
  go_wp2_with fail
  refine (parse_calls _ _ _ _ _ hx2).mono ?_
  rintro e w5 ⟨v0, rfl, hR, hb⟩
  clear hR
  have HB5 := Lib.hid (below_step HB4.out hb)
  have D0' := Lib.hid (blk_below D0.out hb)
  clear D0
  have D0 := D0'
  clear D0'
  have D1' := Lib.hid (blk_below D1.out hb)
  clear D1
  have D1 := D1'
  clear D1'
  have D2' := Lib.hid (blk_below D2.out hb)
  clear D2
  have D2 := D2'
  clear D2'
  clear hb HB4
  go_wp2_with fail
  refine (parse_calls _ _ _ _ _ hx3).mono ?_
  rintro e w6 ⟨v0, rfl, hR, hb⟩
  clear hR
  have HB6 := Lib.hid (below_step HB5.out hb)
  have D0' := Lib.hid (blk_below D0.out hb)
  clear D0
  have D0 := D0'
  clear D0'
  have D1' := Lib.hid (blk_below D1.out hb)
  clear D1
  have D1 := D1'
  clear D1'
  have D2' := Lib.hid (blk_below D2.out hb)
  clear D2
  have D2 := D2'
  clear D2'
  clear hb HB5
  go_wp2_with fail
  refine (weather_Moon.calls _ _ _ _ _ hm1).mono ?_
  rintro e w7 ⟨rfl, hb⟩
  have HB7 := Lib.hid (below_step HB6.out hb)
  have D0' := Lib.hid (blk_below D0.out hb)
  clear D0
  have D0 := D0'
  clear D0'
  have D1' := Lib.hid (blk_below D1.out hb)
  clear D1
  have D1 := D1'
  clear D1'
  have D2' := Lib.hid (blk_below D2.out hb)
  clear D2
  have D2 := D2'
  clear D2'
  clear hb HB6
  go_wp2_with fail
  refine (weather_Background.calls _ _ _ _ _ hb1).mono ?_
  rintro e w8 ⟨rfl, hb⟩
  have HB8 := Lib.hid (below_step HB7.out hb)
  have D0' := Lib.hid (blk_below D0.out hb)
  clear D0
  have D0 := D0'
  clear D0'
  have D1' := Lib.hid (blk_below D1.out hb)
  clear D1
  have D1 := D1'
  clear D1'
  have D2' := Lib.hid (blk_below D2.out hb)
  clear D2
  have D2 := D2'
  clear D2'
  clear hb HB7
  go_wp2_with fail
  refine (weather_Background.calls _ _ _ _ _ hb2).mono ?_
  rintro e w9 ⟨rfl, hb⟩
  have HB9 := Lib.hid (below_step HB8.out hb)
  have D0' := Lib.hid (blk_below D0.out hb)
  clear D0
  have D0 := D0'
  clear D0'
  have D1' := Lib.hid (blk_below D1.out hb)
  clear D1
  have D1 := D1'
  clear D1'
  have D2' := Lib.hid (blk_below D2.out hb)
  clear D2
  have D2 := D2'
  clear D2'
  clear hb HB8
  go_wp2_with fail
  refine (weather_Background.calls _ _ _ _ _ hb3).mono ?_
  rintro e w10 ⟨rfl, hb⟩
  have HB10 := Lib.hid (below_step HB9.out hb)
  have D0' := Lib.hid (blk_below D0.out hb)
  clear D0
  have D0 := D0'
  clear D0'
  have D1' := Lib.hid (blk_below D1.out hb)
  clear D1
  have D1 := D1'
  clear D1'
  have D2' := Lib.hid (blk_below D2.out hb)
  clear D2
  have D2 := D2'
  clear D2'
  clear hb HB9
  go_upto_region 12 with (fail)
  have HB11 := Lib.hid (below_alloc HB10.out (.cells #[.int .i64 1000, .int .i64 1000, .int .i64 1000, .int .i64 1000] 24))
  have D0' := Lib.hid (blk_alloc D0.out (.cells #[.int .i64 1000, .int .i64 1000, .int .i64 1000, .int .i64 1000] 24))
  clear D0
  have D0 := D0'
  clear D0'
  have D1' := Lib.hid (blk_alloc D1.out (.cells #[.int .i64 1000, .int .i64 1000, .int .i64 1000, .int .i64 1000] 24))
  clear D1
  have D1 := D1'
  clear D1'
  have D2' := Lib.hid (blk_alloc D2.out (.cells #[.int .i64 1000, .int .i64 1000, .int .i64 1000, .int .i64 1000] 24))
  clear D2
  have D2 := D2'
  clear D2'
  have E0 := Lib.hid (blk_new w10 (.cells #[.int .i64 1000, .int .i64 1000, .int .i64 1000, .int .i64 1000] 24 (0, 0)))
  clear HB10
  generalize World.alloc w10 (.cells #[.int .i64 1000, .int .i64 1000, .int .i64 1000, .int .i64 1000] 24) = v11 at *
  generalize w10.heap.size = g0 at *
  go_upto_region 13 with (fail)
  have HB12 := Lib.hid (below_alloc HB11.out (.cells #[.int .i64 1000, .int .i64 1000, .int .i64 300, .int .i64 1000] 24))
  have D0' := Lib.hid (blk_alloc D0.out (.cells #[.int .i64 1000, .int .i64 1000, .int .i64 300, .int .i64 1000] 24))
  clear D0
  have D0 := D0'
  clear D0'
  have D1' := Lib.hid (blk_alloc D1.out (.cells #[.int .i64 1000, .int .i64 1000, .int .i64 300, .int .i64 1000] 24))
  clear D1
  have D1 := D1'
  clear D1'
  have D2' := Lib.hid (blk_alloc D2.out (.cells #[.int .i64 1000, .int .i64 1000, .int .i64 300, .int .i64 1000] 24))
  clear D2
  have D2 := D2'
  clear D2'
  have E0' := Lib.hid (blk_alloc E0.out (.cells #[.int .i64 1000, .int .i64 1000, .int .i64 300, .int .i64 1000] 24))
  clear E0
  have E0 := E0'
  clear E0'
  have E1 := Lib.hid (blk_new v11 (.cells #[.int .i64 1000, .int .i64 1000, .int .i64 300, .int .i64 1000] 24 (0, 0)))
  clear HB11
  generalize World.alloc v11 (.cells #[.int .i64 1000, .int .i64 1000, .int .i64 300, .int .i64 1000] 24) = v12 at *
  generalize v11.heap.size = g1 at *
  obtain ⟨z00, z01, z02, z03, z04, z05, z06, z07, z08, z09, z010, z011⟩ := cd_flat (c := ⟨1000, 1000, 300, 1000, 10, true⟩) D0.out
  obtain ⟨z10, z11, z12, z13, z14, z15, z16, z17, z18, z19, z110, z111⟩ := cd_flat (c := ⟨1000, 1000, 300, 1000, 10, false⟩) D1.out
  obtain ⟨z20, z21, z22, z23, z24, z25, z26, z27, z28, z29, z210, z211⟩ := cd_flat (c := ⟨1000, 1000, 1000, 1000, 10, true⟩) D2.out
  have x00 := (blk_cell E0.out 0).trans (show _ = some (Value.int .i64 1000) from rfl)
  have x01 := (blk_cell E0.out 1).trans (show _ = some (Value.int .i64 1000) from rfl)
  have x02 := (blk_cell E0.out 2).trans (show _ = some (Value.int .i64 1000) from rfl)
  have x03 := (blk_cell E0.out 3).trans (show _ = some (Value.int .i64 1000) from rfl)
  have x10 := (blk_cell E1.out 0).trans (show _ = some (Value.int .i64 1000) from rfl)
  have x11 := (blk_cell E1.out 1).trans (show _ = some (Value.int .i64 1000) from rfl)
  have x12 := (blk_cell E1.out 2).trans (show _ = some (Value.int .i64 300) from rfl)
  have x13 := (blk_cell E1.out 3).trans (show _ = some (Value.int .i64 1000) from rfl)
  simp only at *
  go_wp2_with fail
  go_ret
  exact ⟨rfl, HB12.out⟩
end Go.Proofs.YtofjhkjahpdkiaaDoor.We
namespace Go.Proofs.YtofjhkjahpdkiaaDoor.Px
open Go.RowKit Go.Proofs.YtofjhkjahpdkiaaDoorW.PrintWords
def observatorylaw12_head.f : Option Bool := some true
theorem observatorylaw12_head.calls (r : Bool) (w : World) (h : observatorylaw12_head.f = some r) :
    Calls Tryd.prog 8 #[] w fun e w' => e = .returned (.bool r) ∧ Below w.heap.size w w' := by
  obtain rfl : true = r := Option.some.inj h
  exact We.head_calls w
end Go.Proofs.YtofjhkjahpdkiaaDoor.Px
