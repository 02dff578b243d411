/-
  weather's all and At in plain words; At walked.
-/
import Derived.Test.YtofjhkjahpdkiaaDoorPxxA
import Derived.Test.YtofjhkjahpdkiaaDoorWeI0
namespace Go.Proofs.YtofjhkjahpdkiaaDoor.We
open Go.RowKit Go.MapKept Go.Proofs.YtofjhkjahpdkiaaDoorW.PrintWords Go.Proofs.YtofjhkjahpdkiaaDoor.Px
set_option linter.unusedVariables false
set_option linter.unusedSimpArgs false
attribute [local go_sem] run_store_func run_store_nilFunc tok_f2
theorem wrap_small {x : Int} (h0 : 0 ≤ x) (h : x ≤ 1000000) : wrap64 x = x := by unfold wrap64; omega
def fB (s : SSp) : Bool := formB s.f0 s.f1 s.f2 s.f3 s.f4
def allB (l : List SSp) : Bool := decide (l.length ≤ 200) && l.all fB
theorem rd_drop {l : List SSp} {i : Nat} (h : i < l.length) : l.drop i = rd_T32 l (i : Int) :: l.drop (i + 1) := by
  rw [List.drop_eq_getElem_cons h]
  congr 1
  unfold rd_T32
  rw [Int.toNat_natCast, List.getD_eq_getElem?_getD, List.getElem?_eq_getElem h]
  rfl
theorem all_l0 (l : List SSp) (hl : l.length ≤ 200) (d : Nat) : ∀ (i k : Nat), i + d = l.length → d < k → weather_all.l0 k l (l.length : Int) (i : Int) = some ((l.drop i).all fB) := by
  induction d with
  | zero =>
    intro i k hi hk
    obtain ⟨k, rfl⟩ : ∃ m, k = m + 1 := ⟨k - 1, by omega⟩
    simp only [weather_all.l0]
    rw [if_neg (by omega), List.drop_eq_nil_of_le (by omega)]
    rfl
  | succ d ih =>
    intro i k hi hk
    obtain ⟨k, rfl⟩ : ∃ m, k = m + 1 := ⟨k - 1, by omega⟩
    simp only [weather_all.l0]
    have hw : wrap64 ((i : Int) + 1) = ((i + 1 : Nat) : Int) := (wrap_small (by omega) (by omega)).trans (by omega)
    rw [if_pos (by omega), if_pos (by omega), if_pos (by omega), hw, rd_drop (by omega), List.all_cons]
    simp only [weather_formed.f, Option.bind_some]
    have := ih (i + 1) k (by omega) (by omega)
    rw [this]
    show (if fB (rd_T32 l (i : Int)) = true then _ else _) = _
    cases fB (rd_T32 l (i : Int)) <;> simp
theorem all_plain (l : List SSp) : weather_all.f 201 l = some (allB l) := by
  unfold weather_all.f allB
  by_cases h : l.length ≤ 200
  · rw [if_neg (by omega), decide_eq_true h]
    exact all_l0 l h l.length 0 201 (by omega) (by omega)
  · rw [if_pos (by omega), decide_eq_false h]
    rfl
theorem all_calls (A0 : Option Addr) (c0 : Nat) (l : List SSp) (w : World) (hr0 : Kd.C kSp w A0 l.length l) (hc0 : l.length ≤ c0) :
    Calls Tryd.prog 23 #[.slice A0 l.length c0] w fun e w' => e = .returned (.bool (allB l)) ∧ Below w.heap.size w w' :=
  weather_all.calls 201 A0 c0 l _ w hr0 hc0 (all_plain l)
structure Cd where
  c0 : Int
  c1 : Int
  c2 : Int
  c3 : Int
  s : Int
  o : Bool
def Cd.arr (c : Cd) : Array Value := #[.int .i64 c.c0, .int .i64 c.c1, .int .i64 c.c2, .int .i64 c.c3, .int .i64 c.s, .bool c.o]
def setQ (c : Cd) (q v : Int) : Cd := if q = 0 then { c with c0 := v } else if q = 1 then { c with c1 := v } else if q = 2 then { c with c2 := v } else { c with c3 := v }
def inF (m : Int) (s : SSp) : Bool := decide (s.f3 ≤ m ∧ m ≤ s.f4)
def cdPut (c : Cd) (s : SSp) : Cd := if s.f0 = 1 then setQ c s.f1 s.f2 else if s.f0 = 2 then { c with s := s.f2 } else { c with o := false }
def cdStep (m : Int) (c : Cd) (s : SSp) : Cd := if inF m s = true then cdPut c s else c
def cd0 : Cd := ⟨1000, 1000, 1000, 1000, 10, true⟩
def cdZ : Cd := ⟨0, 0, 0, 0, 0, false⟩
def momB (m : Int) : Bool := decide (0 ≤ m ∧ m ≤ 38399)
def atP (l : List SSp) (m : Int) : Cd × Int := if (allB l && momB m) = true then (l.foldl (cdStep m) cd0, 0) else (cdZ, 1)
abbrev CB (w : World) (b : Nat) (c : Cd) : Prop := w.heap[b]? = some (.cells #[.int .i64 c.c0, .int .i64 c.c1, .int .i64 c.c2, .int .i64 c.c3, .int .i64 c.s, .bool c.o] 26 (0, 0))
theorem cd_flat {W : World} {b : Nat} {c : Cd} (h : CB W b c) :
    W.cell? ⟨b, 0, none⟩ = some (.int .i64 c.c0) ∧ W.cell? ⟨b, 1, none⟩ = some (.int .i64 c.c1) ∧ W.cell? ⟨b, 2, none⟩ = some (.int .i64 c.c2) ∧ W.cell? ⟨b, 3, none⟩ = some (.int .i64 c.c3) ∧ W.cell? ⟨b, 4, none⟩ = some (.int .i64 c.s) ∧ W.cell? ⟨b, 5, none⟩ = some (.bool c.o) ∧
    W.frozen? ⟨b, 0, none⟩ = false ∧ W.frozen? ⟨b, 1, none⟩ = false ∧ W.frozen? ⟨b, 2, none⟩ = false ∧ W.frozen? ⟨b, 3, none⟩ = false ∧ W.frozen? ⟨b, 4, none⟩ = false ∧ W.frozen? ⟨b, 5, none⟩ = false :=
  ⟨(blk_cell h 0).trans rfl, (blk_cell h 1).trans rfl, (blk_cell h 2).trans rfl, (blk_cell h 3).trans rfl, (blk_cell h 4).trans rfl, (blk_cell h 5).trans rfl, blk_frozen h 0, blk_frozen h 1, blk_frozen h 2, blk_frozen h 3, blk_frozen h 4, blk_frozen h 5⟩
def putCd (W : World) (b : Nat) (c : Cd) : World := (((((W.setCell ⟨b, 0, none⟩ (.int .i64 c.c0)).setCell ⟨b, 1, none⟩ (.int .i64 c.c1)).setCell ⟨b, 2, none⟩ (.int .i64 c.c2)).setCell ⟨b, 3, none⟩ (.int .i64 c.c3)).setCell ⟨b, 4, none⟩ (.int .i64 c.s)).setCell ⟨b, 5, none⟩ (.bool c.o)
theorem putCd_at {W : World} {b : Nat} {c c' : Cd} (h : CB W b c) : CB (putCd W b c') b c' :=
  (blk_set (blk_set (blk_set (blk_set (blk_set (blk_set h 0 _) 1 _) 2 _) 3 _) 4 _) 5 _).trans rfl
theorem putCd_below {B b : Nat} {w W : World} {c : Cd} (h : Below B w W) (hb : B ≤ b) : Below B w (putCd W b c) :=
  (((((h.setCell hb _).setCell hb _).setCell hb _).setCell hb _).setCell hb _).setCell hb _
theorem at_end {w W : World} {c : Cd} {x : Int} (tmps : Array Value) (h4 : tmps.getD 4 undef = .pointer (some ⟨w.heap.size, 0, none⟩)) (h5 : tmps.getD 5 undef = .int .i64 x) (hW : CB W w.heap.size c) (hB : Below w.heap.size w W) :
    bodyPost Tryd.prog Tryd.f9 (fun e w' => e = .returned (.tuple #[.agg c.arr, .int .i64 x]) ∧ Below w.heap.size w w') .ret { tmps := tmps, defers := [] } W := by
  refine bodyPost_ret (v := .tuple #[.agg c.arr, .int .i64 x]) ?_ rfl ⟨rfl, hB⟩
  have h := results_ct (fn := Tryd.f9) (p := 4) (u := 5) (ty := 26) rfl tmps W w.heap.size 26 c.arr (0, 0) _ h4 hW Tryd.underlying26 rfl (by kernel_rfl)
  rw [h5] at h
  exact h
theorem take_rd {l : List SSp} {x : Int} (h0 : 0 ≤ x) (h : x < l.length) : l.take (x + 1).toNat = l.take x.toNat ++ [rd_T32 l x] := by
  have e : (x + 1).toNat = x.toNat + 1 := by omega
  have hl : x.toNat < l.length := by omega
  rw [e, List.take_succ_eq_append_getElem hl]
  unfold rd_T32
  rw [List.getD_eq_getElem?_getD, List.getElem?_eq_getElem hl]
  rfl
theorem fold_rd (m : Int) {l : List SSp} {x : Int} (h0 : 0 ≤ x) (h : x < l.length) : (l.take (x + 1).toNat).foldl (cdStep m) cd0 = cdStep m ((l.take x.toNat).foldl (cdStep m) cd0) (rd_T32 l x) := by
  rw [take_rd h0 h, List.foldl_append]
  rfl
theorem rd_mem {l : List SSp} {x : Int} (h0 : 0 ≤ x) (h : x < l.length) : rd_T32 l x ∈ l := by
  have hl : x.toNat < l.length := by omega
  unfold rd_T32
  rw [List.getD_eq_getElem?_getD, List.getElem?_eq_getElem hl]
  exact List.getElem_mem hl
theorem fB_kind {s : SSp} (h : fB s = true) : (s.f0 = 1 ∧ (s.f1 = 0 ∨ s.f1 = 1 ∨ s.f1 = 2 ∨ s.f1 = 3)) ∨ s.f0 = 2 ∨ s.f0 = 3 := by
  unfold fB formB valB at h
  simp only [Bool.and_eq_true, decide_eq_true_eq] at h
  obtain ⟨hk, _, _, _, hv⟩ := h
  rcases hk with hk | hk | hk
  · left
    rw [if_pos hk] at hv
    simp only [Bool.and_eq_true, decide_eq_true_eq] at hv
    exact ⟨hk, by omega⟩
  · exact .inr (.inl hk)
  · exact .inr (.inr hk)
set_option maxHeartbeats 8000000 in
set_option maxRecDepth 1000000 in
theorem at_calls (A0 : Option Addr) (c0 : Nat) (l : List SSp) (m : Int) (w : World) (hr0 : Kd.C kSp w A0 l.length l) (hc0 : l.length ≤ c0) :
    Calls Tryd.prog 9 #[.slice A0 l.length c0, .int .i64 m] w fun e w' => e = .returned (.tuple #[.agg (atP l m).1.arr, .int .i64 (atP l m).2]) ∧ Below w.heap.size w w' := by
  have hm := moment_calls m
  have hAT : atP l m = if (allB l && momB m) = true then (l.foldl (cdStep m) cd0, 0) else (cdZ, 1) := rfl
  generalize atP l m = res at *
  obtain ⟨rc, re⟩ := res
  have HAT := Lib.hid hAT
  have HR0 := Lib.hid hr0
  have HC0 := Lib.hid hc0
  clear hAT hr0
  go_enter Tryd.func9, Tryd.ntmps9
  go_upto_region 1 with (fail)
  have hb0 := below_alloc (Below.refl w.heap.size w) (.cells #[.int .i64 0, .int .i64 0, .int .i64 0, .int .i64 0, .int .i64 0, .bool false] 26)
  have HZ : Hid (CB (w.alloc (.cells #[.int .i64 0, .int .i64 0, .int .i64 0, .int .i64 0, .int .i64 0, .bool false] 26)) w.heap.size cdZ) := Lib.hid (blk_new w (.cells #[.int .i64 0, .int .i64 0, .int .i64 0, .int .i64 0, .int .i64 0, .bool false] 26 (0, 0)))
  have HR1 := Lib.hid (Kd.C_below HR0.out hb0)
  have hall := all_calls A0 c0 l _ HR1.out HC0.out
  generalize w.alloc (.cells #[.int .i64 0, .int .i64 0, .int .i64 0, .int .i64 0, .int .i64 0, .bool false] 26) = w0 at *
  have HB0 := Lib.hid hb0
  clear hb0
  generalize hab : allB l = ab at *
  have HAB := Lib.hid hab
  clear hab
  cases ab with
  | false =>
    have hA := HAT.out
    rw [Bool.false_and, if_neg (by decide)] at hA
    simp only [Prod.mk.injEq] at hA
    obtain ⟨rfl, rfl⟩ := hA
    go_wp2_with fail
    refine hall.mono ?_
    rintro e w1 ⟨rfl, hb⟩
    have HB1 := Lib.hid (below_step HB0.out hb)
    have HZ1 := Lib.hid (blk_below HZ.out hb)
    clear hb hall HZ HR1 HB0
    obtain ⟨z0, z1, z2, z3, z4, z5, y0, y1, y2, y3, y4, y5⟩ := cd_flat HZ1.out
    go_wp2_with fail
    exact at_end _ rfl rfl (putCd_at (c' := cdZ) HZ1.out) (putCd_below (c := cdZ) HB1.out (Nat.le_refl _))
  | true =>
    generalize hmb : momB m = mb at *
    have hmd : decide (0 ≤ m ∧ m ≤ 38399) = mb := hmb
    rw [hmd] at hm
    clear hmd hmb
    cases mb with
    | false =>
      have hA := HAT.out
      rw [Bool.and_false, if_neg (by decide)] at hA
      simp only [Prod.mk.injEq] at hA
      obtain ⟨rfl, rfl⟩ := hA
      go_wp2_with fail
      refine hall.mono ?_
      rintro e w1 ⟨rfl, hb⟩
      have HB1 := Lib.hid (below_step HB0.out hb)
      have HZ1 := Lib.hid (blk_below HZ.out hb)
      clear hb hall HZ HR1 HB0
      go_wp2_with fail
      refine (hm _).mono ?_
      rintro e w2 ⟨rfl, rfl⟩
      obtain ⟨z0, z1, z2, z3, z4, z5, y0, y1, y2, y3, y4, y5⟩ := cd_flat HZ1.out
      go_wp2_with fail
      exact at_end _ rfl rfl (putCd_at (c' := cdZ) HZ1.out) (putCd_below (c := cdZ) HB1.out (Nat.le_refl _))
    | true =>
      have hA := HAT.out
      rw [Bool.true_and, if_pos rfl] at hA
      simp only [Prod.mk.injEq] at hA
      obtain ⟨rfl, rfl⟩ := hA
      go_wp2_with fail
      refine hall.mono ?_
      rintro e w1 ⟨rfl, hb⟩
      have HB1 := Lib.hid (below_step HB0.out hb)
      have HZ1 := Lib.hid (blk_below HZ.out hb)
      clear hb hall HZ HR1 HB0
      go_wp2_with fail
      refine (hm _).mono ?_
      rintro e w2 ⟨rfl, rfl⟩
      clear hm
      go_upto_region 4 with (fail)
      have HB3 := Lib.hid (below_alloc HB1.out (.cells #[.int .i64 0, .int .i64 0, .int .i64 0, .int .i64 0, .int .i64 10, .bool true] 26))
      have HZ3 := Lib.hid (blk_alloc HZ1.out (.cells #[.int .i64 0, .int .i64 0, .int .i64 0, .int .i64 0, .int .i64 10, .bool true] 26))
      have hC3 : CB (w2.alloc (.cells #[.int .i64 0, .int .i64 0, .int .i64 0, .int .i64 0, .int .i64 10, .bool true] 26)) w2.heap.size ⟨0, 0, 0, 0, 10, true⟩ := blk_new w2 _
      have HC3 := Lib.hid hC3
      have hlt : w.heap.size < w2.heap.size := blk_lt HZ1.out
      clear hC3 HB1 HZ1
      generalize w2.alloc (.cells #[.int .i64 0, .int .i64 0, .int .i64 0, .int .i64 0, .int .i64 10, .bool true] 26) = w3 at *
      generalize w2.heap.size = bc at *
      go_wp2_with fail
      refine wp_loop_rounds 5 ?_
      obtain ⟨z0, z1, z2, z3, z4, z5, y0, y1, y2, y3, y4, y5⟩ := cd_flat HC3.out
      rw [rounds_succ]
      go_upto_region 8 with (fail)
      have HB4 := Lib.hid (HB3.out.setCell (p := ⟨bc, 0, none⟩) (Nat.le_of_lt hlt) (.int .i64 1000))
      have HZ4 := Lib.hid (blk_far (p := ⟨bc, 0, none⟩) HZ3.out (Nat.ne_of_lt hlt) (.int .i64 1000))
      have hC4 : CB (World.setCell w3 ⟨bc, 0, none⟩ (.int .i64 1000)) bc ⟨1000, 0, 0, 0, 10, true⟩ := (blk_set HC3.out 0 _).trans rfl
      have HC4 := Lib.hid hC4
      clear hC4 HB3 HZ3 HC3 z0 z1 z2 z3 z4 z5 y0 y1 y2 y3 y4 y5
      generalize World.setCell w3 ⟨bc, 0, none⟩ (.int .i64 1000) = v1 at *
      have HB3 := HB4
      have HZ3 := HZ4
      have HC3 := HC4
      clear HB4 HZ4 HC4
      go_wp2_with fail
      obtain ⟨z0, z1, z2, z3, z4, z5, y0, y1, y2, y3, y4, y5⟩ := cd_flat HC3.out
      rw [rounds_succ]
      go_upto_region 8 with (fail)
      have HB4 := Lib.hid (HB3.out.setCell (p := ⟨bc, 1, none⟩) (Nat.le_of_lt hlt) (.int .i64 1000))
      have HZ4 := Lib.hid (blk_far (p := ⟨bc, 1, none⟩) HZ3.out (Nat.ne_of_lt hlt) (.int .i64 1000))
      have hC4 : CB (World.setCell v1 ⟨bc, 1, none⟩ (.int .i64 1000)) bc ⟨1000, 1000, 0, 0, 10, true⟩ := (blk_set HC3.out 1 _).trans rfl
      have HC4 := Lib.hid hC4
      clear hC4 HB3 HZ3 HC3 z0 z1 z2 z3 z4 z5 y0 y1 y2 y3 y4 y5
      generalize World.setCell v1 ⟨bc, 1, none⟩ (.int .i64 1000) = v2 at *
      have HB3 := HB4
      have HZ3 := HZ4
      have HC3 := HC4
      clear HB4 HZ4 HC4
      go_wp2_with fail
      obtain ⟨z0, z1, z2, z3, z4, z5, y0, y1, y2, y3, y4, y5⟩ := cd_flat HC3.out
      rw [rounds_succ]
      go_upto_region 8 with (fail)
      have HB4 := Lib.hid (HB3.out.setCell (p := ⟨bc, 2, none⟩) (Nat.le_of_lt hlt) (.int .i64 1000))
      have HZ4 := Lib.hid (blk_far (p := ⟨bc, 2, none⟩) HZ3.out (Nat.ne_of_lt hlt) (.int .i64 1000))
      have hC4 : CB (World.setCell v2 ⟨bc, 2, none⟩ (.int .i64 1000)) bc ⟨1000, 1000, 1000, 0, 10, true⟩ := (blk_set HC3.out 2 _).trans rfl
      have HC4 := Lib.hid hC4
      clear hC4 HB3 HZ3 HC3 z0 z1 z2 z3 z4 z5 y0 y1 y2 y3 y4 y5
      generalize World.setCell v2 ⟨bc, 2, none⟩ (.int .i64 1000) = v3 at *
      have HB3 := HB4
      have HZ3 := HZ4
      have HC3 := HC4
      clear HB4 HZ4 HC4
      go_wp2_with fail
      obtain ⟨z0, z1, z2, z3, z4, z5, y0, y1, y2, y3, y4, y5⟩ := cd_flat HC3.out
      rw [rounds_succ]
      go_upto_region 8 with (fail)
      have HB4 := Lib.hid (HB3.out.setCell (p := ⟨bc, 3, none⟩) (Nat.le_of_lt hlt) (.int .i64 1000))
      have HZ4 := Lib.hid (blk_far (p := ⟨bc, 3, none⟩) HZ3.out (Nat.ne_of_lt hlt) (.int .i64 1000))
      have hC4 : CB (World.setCell v3 ⟨bc, 3, none⟩ (.int .i64 1000)) bc ⟨1000, 1000, 1000, 1000, 10, true⟩ := (blk_set HC3.out 3 _).trans rfl
      have HC4 := Lib.hid hC4
      clear hC4 HB3 HZ3 HC3 z0 z1 z2 z3 z4 z5 y0 y1 y2 y3 y4 y5
      generalize World.setCell v3 ⟨bc, 3, none⟩ (.int .i64 1000) = v4 at *
      have HB3 := HB4
      have HZ3 := HZ4
      have HC3 := HC4
      clear HB4 HZ4 HC4
      go_wp2_with fail
      rw [rounds_succ]
      go_wp2_with fail
      have hlen : l.length ≤ 200 ∧ ∀ s ∈ l, fB s = true := by
        have h := HAB.out
        unfold allB at h
        simp only [Bool.and_eq_true, decide_eq_true_eq, List.all_eq_true] at h
        exact h
      obtain ⟨hl2, hfb⟩ := hlen
      have HFB := Lib.hid hfb
      clear hfb
      have hstart : CB v4 bc ((l.take (0 : Int).toNat).foldl (cdStep m) cd0) := HC3.out
      have HST := Lib.hid hstart
      clear hstart hc0
      go_loopw [29] (fun v wr => ∃ x : Int, v = .int .i64 x ∧ 0 ≤ x ∧ x ≤ l.length ∧ Hid (Below w.heap.size w wr) ∧ Hid (CB wr w.heap.size cdZ) ∧ Hid (CB wr bc ((l.take x.toNat).foldl (cdStep m) cd0))) (fun v _ => l.length - (intOf v).toNat)
      case atStart => exact ⟨0, rfl, by omega, by omega, HB3.out, HZ3.out, HST.out⟩
      case round =>
        obtain ⟨x, rfl, hx0, hxl, HB, HZ, HC⟩ := hrel
        clear HB3 HZ3 HC3 HST
        have hw : wrap64 (x + 1) = x + 1 := wrap_small (by omega) (by omega)
        by_cases hlt2 : x < (l.length : Int)
        · have HF := Lib.hid (fold_rd m hx0 hlt2)
          have HK := Lib.hid (fB_kind (HFB.out _ (rd_mem hx0 hlt2)))
          obtain ⟨ad, e1, d0, d1, d2, d3, d4⟩ := at_T32 (Kd.C_below HR0.out HB.out) x hx0 hlt2
          subst e1
          have c3 : decide (x < (l.length : Int)) = true := decide_eq_true hlt2
          have p := eq_true hx0
          have q := eq_true hlt2
          have HX := Lib.hid hx0
          have HY := Lib.hid hlt2
          have HW := Lib.hid hw
          clear hx0 hlt2 hw hxl
          generalize rd_T32 l x = s at *
          go_upto_region 12 with (fail)
          have HB1 := Lib.hid (below_alloc HB.out (.cells #[.int .i64 s.f0, .int .i64 s.f1, .int .i64 s.f2, .int .i64 s.f3, .int .i64 s.f4] 32))
          have HZ1 := Lib.hid (blk_alloc HZ.out (.cells #[.int .i64 s.f0, .int .i64 s.f1, .int .i64 s.f2, .int .i64 s.f3, .int .i64 s.f4] 32))
          have hC1 : CB (wr.alloc (.cells #[.int .i64 s.f0, .int .i64 s.f1, .int .i64 s.f2, .int .i64 s.f3, .int .i64 s.f4] 32)) bc ((l.take x.toNat).foldl (cdStep m) cd0) := blk_alloc HC.out (.cells #[.int .i64 s.f0, .int .i64 s.f1, .int .i64 s.f2, .int .i64 s.f3, .int .i64 s.f4] 32)
          have HC1 := Lib.hid hC1
          have hs := blk_new wr (.cells #[.int .i64 s.f0, .int .i64 s.f1, .int .i64 s.f2, .int .i64 s.f3, .int .i64 s.f4] 32 (0, 0))
          have hsne : bc ≠ wr.heap.size := Nat.ne_of_lt (blk_lt HC.out)
          clear hC1 HB HZ HC d0 d1 d2 d3 d4
          generalize wr.alloc (.cells #[.int .i64 s.f0, .int .i64 s.f1, .int .i64 s.f2, .int .i64 s.f3, .int .i64 s.f4] 32) = w5 at *
          generalize wr.heap.size = bs at *
          obtain ⟨d0, d1, d2, d3, d4, _, _, _, _, _⟩ := sp_flat hs
          clear hs
          have hin := within_calls m s.f3 s.f4
          have hie : inF m s = decide (s.f3 ≤ m ∧ m ≤ s.f4) := rfl
          rw [← hie] at hin
          clear hie
          generalize hi : inF m s = bi at *
          have HI := Lib.hid hi
          clear hi
          generalize hc : (l.take x.toNat).foldl (cdStep m) cd0 = c at *
          clear hc
          have HF2 : Hid ((l.take (x + 1).toNat).foldl (cdStep m) cd0 = if bi = true then cdPut c s else c) := Lib.hid (by rw [HF.out]; unfold cdStep; rw [HI.out])
          clear HF HI
          have hm0 := HX.out
          have hm1 := HY.out
          have HMU : Hid (l.length - (x + 1).toNat < l.length - x.toNat) := Lib.hid (by omega)
          have HX1 : Hid (0 ≤ x + 1 ∧ x + 1 ≤ (l.length : Int)) := Lib.hid (by omega)
          clear hm0 hm1 HX HY
          have hw := HW.out
          cases bi with
          | false =>
            have hF := HF2.out
            rw [if_neg (by decide)] at hF
            have HC2 := Lib.hid (show CB w5 bc ((l.take (x + 1).toNat).foldl (cdStep m) cd0) by rw [hF]; exact HC1.out)
            clear hF HF2
            go_wp2_with fail
            refine (hin _).mono ?_
            rintro e w6 ⟨rfl, rfl⟩
            clear hin
            go_wp2_with fail
            go_roundw
            case rel => exact ⟨x + 1, by rw [hw], HX1.out.1, HX1.out.2, HB1.out, HZ1.out, HC2.out⟩
            case measure => rw [hw]; exact HMU.out
          | true =>
            have hF := HF2.out
            rw [if_pos rfl] at hF
            have HF3 := Lib.hid hF
            clear hF HF2
            obtain ⟨z0, z1, z2, z3, z4, z5, y0, y1, y2, y3, y4, y5⟩ := cd_flat HC1.out
            have hkk := HK.out
            clear HK
            rcases hkk with ⟨hk, hq⟩ | hk | hk
            · obtain ⟨s0, s1, s2, s3, s4⟩ := s
              simp only at hk hq
              subst hk
              rcases hq with rfl | rfl | rfl | rfl
              · skip
                go_wp2_with fail
                refine (hin _).mono ?_
                rintro e w6 ⟨rfl, rfl⟩
                clear hin
                go_wp2_with fail
                refine ⟨⟨x + 1, by rw [hw], HX1.out.1, HX1.out.2, HB1.out.setCell (p := ⟨bc, 0, none⟩) (Nat.le_of_lt hlt) _, blk_far (p := ⟨bc, 0, none⟩) HZ1.out (Nat.ne_of_lt hlt) _, ?_⟩, ?_⟩
                · show CB _ bc _
                  rw [HF3.out]
                  exact (blk_set HC1.out 0 _).trans rfl
                · rw [hw]; exact HMU.out
              · skip
                go_wp2_with fail
                refine (hin _).mono ?_
                rintro e w6 ⟨rfl, rfl⟩
                clear hin
                go_wp2_with fail
                refine ⟨⟨x + 1, by rw [hw], HX1.out.1, HX1.out.2, HB1.out.setCell (p := ⟨bc, 1, none⟩) (Nat.le_of_lt hlt) _, blk_far (p := ⟨bc, 1, none⟩) HZ1.out (Nat.ne_of_lt hlt) _, ?_⟩, ?_⟩
                · show CB _ bc _
                  rw [HF3.out]
                  exact (blk_set HC1.out 1 _).trans rfl
                · rw [hw]; exact HMU.out
              · skip
                go_wp2_with fail
                refine (hin _).mono ?_
                rintro e w6 ⟨rfl, rfl⟩
                clear hin
                go_wp2_with fail
                refine ⟨⟨x + 1, by rw [hw], HX1.out.1, HX1.out.2, HB1.out.setCell (p := ⟨bc, 2, none⟩) (Nat.le_of_lt hlt) _, blk_far (p := ⟨bc, 2, none⟩) HZ1.out (Nat.ne_of_lt hlt) _, ?_⟩, ?_⟩
                · show CB _ bc _
                  rw [HF3.out]
                  exact (blk_set HC1.out 2 _).trans rfl
                · rw [hw]; exact HMU.out
              · skip
                go_wp2_with fail
                refine (hin _).mono ?_
                rintro e w6 ⟨rfl, rfl⟩
                clear hin
                go_wp2_with fail
                refine ⟨⟨x + 1, by rw [hw], HX1.out.1, HX1.out.2, HB1.out.setCell (p := ⟨bc, 3, none⟩) (Nat.le_of_lt hlt) _, blk_far (p := ⟨bc, 3, none⟩) HZ1.out (Nat.ne_of_lt hlt) _, ?_⟩, ?_⟩
                · show CB _ bc _
                  rw [HF3.out]
                  exact (blk_set HC1.out 3 _).trans rfl
                · rw [hw]; exact HMU.out
            · obtain ⟨s0, s1, s2, s3, s4⟩ := s
              simp only at hk
              subst hk
              go_wp2_with fail
              refine (hin _).mono ?_
              rintro e w6 ⟨rfl, rfl⟩
              clear hin
              go_wp2_with fail
              refine ⟨⟨x + 1, by rw [hw], HX1.out.1, HX1.out.2, HB1.out.setCell (p := ⟨bc, 4, none⟩) (Nat.le_of_lt hlt) _, blk_far (p := ⟨bc, 4, none⟩) HZ1.out (Nat.ne_of_lt hlt) _, ?_⟩, ?_⟩
              · show CB _ bc _
                rw [HF3.out]
                exact (blk_set HC1.out 4 _).trans rfl
              · rw [hw]; exact HMU.out
            · obtain ⟨s0, s1, s2, s3, s4⟩ := s
              simp only at hk
              subst hk
              go_wp2_with fail
              refine (hin _).mono ?_
              rintro e w6 ⟨rfl, rfl⟩
              clear hin
              go_wp2_with fail
              refine ⟨⟨x + 1, by rw [hw], HX1.out.1, HX1.out.2, HB1.out.setCell (p := ⟨bc, 5, none⟩) (Nat.le_of_lt hlt) _, blk_far (p := ⟨bc, 5, none⟩) HZ1.out (Nat.ne_of_lt hlt) _, ?_⟩, ?_⟩
              · show CB _ bc _
                rw [HF3.out]
                exact (blk_set HC1.out 5 _).trans rfl
              · rw [hw]; exact HMU.out
        · have hx : x = l.length := by omega
          subst hx
          have c3 : decide ((l.length : Int) < (l.length : Int)) = false := decide_eq_false (by omega)
          rw [show (l.take (l.length : Int).toNat) = l from by rw [Int.toNat_natCast, List.take_length]] at HC
          obtain ⟨z0, z1, z2, z3, z4, z5, y0, y1, y2, y3, y4, y5⟩ := cd_flat HC.out
          obtain ⟨r0, r1, r2, r3, r4, r5, q0, q1, q2, q3, q4, q5⟩ := cd_flat HZ.out
          clear hw
          go_wp2_with fail
          exact at_end _ rfl rfl (putCd_at (c' := l.foldl (cdStep m) cd0) HZ.out) (putCd_below (c := l.foldl (cdStep m) cd0) HB.out (Nat.le_refl _))
end Go.Proofs.YtofjhkjahpdkiaaDoor.We
namespace Go.Proofs.YtofjhkjahpdkiaaDoor.Px
open Go.RowKit Go.Proofs.YtofjhkjahpdkiaaDoorW.PrintWords
def weather_At.f (l0 : List S32) (a1 : Int) : Option (Int × Int × Int × Int × Int × Bool × Int) :=
  some ((We.atP l0 a1).1.c0, (We.atP l0 a1).1.c1, (We.atP l0 a1).1.c2, (We.atP l0 a1).1.c3, (We.atP l0 a1).1.s, (We.atP l0 a1).1.o, (We.atP l0 a1).2)
theorem weather_At.calls (A0 : Option Addr) (c0 : Nat) (l0 : List S32) (a1 : Int) (r1 r2 r3 r4 r5 : Int) (r6 : Bool) (r7 : Int) (w : World) (hr0 : Kd.C k32 w A0 l0.length l0) (hc0 : l0.length ≤ c0) (h : weather_At.f l0 a1 = some (r1, r2, r3, r4, r5, r6, r7)) :
    Calls Tryd.prog 9 #[.slice A0 l0.length c0, .int .i64 a1] w fun e w' => e = .returned (.tuple #[.agg #[.int .i64 r1, .int .i64 r2, .int .i64 r3, .int .i64 r4, .int .i64 r5, .bool r6], .int .i64 r7]) ∧ Below w.heap.size w w' := by
  have h2 := We.at_calls A0 c0 l0 a1 w hr0 hc0
  simp only [weather_At.f, Option.some.injEq, Prod.mk.injEq] at h
  obtain ⟨rfl, rfl, rfl, rfl, rfl, rfl, rfl⟩ := h
  exact h2
end Go.Proofs.YtofjhkjahpdkiaaDoor.Px
