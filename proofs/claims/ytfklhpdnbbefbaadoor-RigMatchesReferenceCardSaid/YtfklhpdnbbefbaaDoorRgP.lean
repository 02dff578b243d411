/-
  rig.Prepare: its contract.
-/
import Derived.Test.YtfklhpdnbbefbaaDoorRgS
import Derived.Test.YtfklhpdnbbefbaaDoorPxxA
namespace Go.Proofs.YtfklhpdnbbefbaaDoor.Px
open Go.RowKit Go.Proofs.YtfklhpdnbbefbaaDoorW.PrintWords Go.Proofs.YtfklhpdnbbefbaaDoorW.PrintLast Go.Proofs.YtfklhpdnbbefbaaDoor.Rg Go.Proofs.YtfklhpdnbbefbaaDoor.Lx
set_option linter.unusedVariables false
set_option linter.unusedSimpArgs false
abbrev POut := Int × Int × Bool × Int × Int
def rig_Prepare.f (a0_0 : ByteArray) (a0_1 : Int) (a0_2 : Int) (a0_3 : Int) (a0_4 : Int) (a0_5 : Int) (a0_6 : Int) (a0_7 : Int) (a0_8 : Int) (a1_0 a1_1 : Int) (a1_2 : Bool) (a2 a3 : Int) : Option POut :=
  (rig_Valid.f a0_0 a0_1 a0_2 a0_3 a0_4 a0_5 a0_6 a0_7 a0_8 a1_0 a1_1 a1_2).bind fun v => if v = false then some (0, 0, false, 0, 1) else
  (rig_within_int.f a3 0 (wrap64 (a0_3 - 1))).bind fun u => if u = false then some (0, 0, false, 0, 1) else
  if (moveP a1_0 a2).2.2 ≠ 0 then some (0, 0, false, 0, 1) else
  if (moveP a1_0 a2).1 = a1_0 ∧ a3 = a1_1 then some ((moveP a1_0 a2).1, a3, a1_2, 0, 0) else
  if a1_2 = true ∧ a3 ≠ a1_1 then some (0, 0, false, 0, 20) else
  (rig_Turn.f a0_0 a0_1 a0_2 a0_3 a0_4 a0_5 a0_6 a0_7 a0_8 a1_1 a3).bind fun t => if max (wrap64 (a0_2 * (moveP a1_0 a2).2.1)) t.1 > 60 then some (0, 0, false, 0, 21) else
  some ((moveP a1_0 a2).1, a3, a1_2, max (wrap64 (a0_2 * (moveP a1_0 a2).2.1)) t.1, 0)
structure PSt (w w1 : World) (a0_0 : ByteArray) (a0_1 a0_2 a0_3 a0_4 a0_5 a0_6 a0_7 a0_8 a1_0 a1_1 : Int) (a1_2 : Bool) : Prop where
  below : Below w.heap.size w w1
  t : w1.heap[w.heap.size]? = some (.cells #[.string a0_0, .int .i64 a0_1, .int .i64 a0_2, .int .i64 a0_3, .int .i64 a0_4, .int .i64 a0_5, .int .i64 a0_6, .int .i64 a0_7, .int .i64 a0_8] 25 (0, 0))
  r : w1.heap[(w.heap.size + 1)]? = some (.cells #[.int .i64 a1_0, .int .i64 a1_1, .bool a1_2] 27 (0, 0))
  z : w1.heap[(w.heap.size + 1 + 1)]? = some (.cells #[.int .i64 0, .int .i64 0, .bool false] 27 (0, 0))
theorem PSt.start (w : World) (a0_0 : ByteArray) (a0_1 a0_2 a0_3 a0_4 a0_5 a0_6 a0_7 a0_8 a1_0 a1_1 : Int) (a1_2 : Bool) : PSt w (((w.alloc (.cells #[.string a0_0, .int .i64 a0_1, .int .i64 a0_2, .int .i64 a0_3, .int .i64 a0_4, .int .i64 a0_5, .int .i64 a0_6, .int .i64 a0_7, .int .i64 a0_8] 25)).alloc (.cells #[.int .i64 a1_0, .int .i64 a1_1, .bool a1_2] 27)).alloc (.cells #[.int .i64 0, .int .i64 0, .bool false] 27)) a0_0 a0_1 a0_2 a0_3 a0_4 a0_5 a0_6 a0_7 a0_8 a1_0 a1_1 a1_2 := by
  have s1 : (w.alloc (.cells #[.string a0_0, .int .i64 a0_1, .int .i64 a0_2, .int .i64 a0_3, .int .i64 a0_4, .int .i64 a0_5, .int .i64 a0_6, .int .i64 a0_7, .int .i64 a0_8] 25)).heap.size = w.heap.size + 1 := by simp
  have s2 : ((w.alloc (.cells #[.string a0_0, .int .i64 a0_1, .int .i64 a0_2, .int .i64 a0_3, .int .i64 a0_4, .int .i64 a0_5, .int .i64 a0_6, .int .i64 a0_7, .int .i64 a0_8] 25)).alloc (.cells #[.int .i64 a1_0, .int .i64 a1_1, .bool a1_2] 27)).heap.size = w.heap.size + 1 + 1 := by simp
  have h0 := blk_new w (.cells #[.string a0_0, .int .i64 a0_1, .int .i64 a0_2, .int .i64 a0_3, .int .i64 a0_4, .int .i64 a0_5, .int .i64 a0_6, .int .i64 a0_7, .int .i64 a0_8] 25 (0, 0))
  have h1 := blk_new (w.alloc (.cells #[.string a0_0, .int .i64 a0_1, .int .i64 a0_2, .int .i64 a0_3, .int .i64 a0_4, .int .i64 a0_5, .int .i64 a0_6, .int .i64 a0_7, .int .i64 a0_8] 25)) (.cells #[.int .i64 a1_0, .int .i64 a1_1, .bool a1_2] 27 (0, 0))
  have h2 := blk_new ((w.alloc (.cells #[.string a0_0, .int .i64 a0_1, .int .i64 a0_2, .int .i64 a0_3, .int .i64 a0_4, .int .i64 a0_5, .int .i64 a0_6, .int .i64 a0_7, .int .i64 a0_8] 25)).alloc (.cells #[.int .i64 a1_0, .int .i64 a1_1, .bool a1_2] 27)) (.cells #[.int .i64 0, .int .i64 0, .bool false] 27 (0, 0))
  rw [s1] at h1
  rw [s2] at h2
  exact ⟨below_new (below_new (below_new (Below.refl _ _) _ (Nat.le_refl _)) _ (Nat.le_refl _)) _ (Nat.le_refl _), blk_alloc (blk_alloc h0 _) _, blk_alloc h1 _, h2⟩
theorem PSt.go {w w1 w2 : World} {a0_0 : ByteArray} {a0_1 a0_2 a0_3 a0_4 a0_5 a0_6 a0_7 a0_8 a1_0 a1_1 : Int} {a1_2 : Bool} (h : PSt w w1 a0_0 a0_1 a0_2 a0_3 a0_4 a0_5 a0_6 a0_7 a0_8 a1_0 a1_1 a1_2) (hb : Below w1.heap.size w1 w2) : PSt w w2 a0_0 a0_1 a0_2 a0_3 a0_4 a0_5 a0_6 a0_7 a0_8 a1_0 a1_1 a1_2 :=
  ⟨below_then h.below h.below.size hb, blk_below h.t hb, blk_below h.r hb, blk_below h.z hb⟩
theorem PSt.facts {w w1 : World} {a0_0 : ByteArray} {a0_1 a0_2 a0_3 a0_4 a0_5 a0_6 a0_7 a0_8 a1_0 a1_1 : Int} {a1_2 : Bool} (h : PSt w w1 a0_0 a0_1 a0_2 a0_3 a0_4 a0_5 a0_6 a0_7 a0_8 a1_0 a1_1 a1_2) : w1.cell? ⟨w.heap.size, 0, none⟩ = some (.string a0_0) ∧ w1.cell? ⟨w.heap.size, 1, none⟩ = some (.int .i64 a0_1) ∧ w1.cell? ⟨w.heap.size, 2, none⟩ = some (.int .i64 a0_2) ∧ w1.cell? ⟨w.heap.size, 3, none⟩ = some (.int .i64 a0_3) ∧ w1.cell? ⟨w.heap.size, 4, none⟩ = some (.int .i64 a0_4) ∧ w1.cell? ⟨w.heap.size, 5, none⟩ = some (.int .i64 a0_5) ∧ w1.cell? ⟨w.heap.size, 6, none⟩ = some (.int .i64 a0_6) ∧ w1.cell? ⟨w.heap.size, 7, none⟩ = some (.int .i64 a0_7) ∧ w1.cell? ⟨w.heap.size, 8, none⟩ = some (.int .i64 a0_8) ∧ w1.cell? ⟨(w.heap.size + 1), 0, none⟩ = some (.int .i64 a1_0) ∧ w1.cell? ⟨(w.heap.size + 1), 1, none⟩ = some (.int .i64 a1_1) ∧ w1.cell? ⟨(w.heap.size + 1), 2, none⟩ = some (.bool a1_2) ∧ w1.cell? ⟨(w.heap.size + 1 + 1), 0, none⟩ = some (.int .i64 0) ∧ w1.cell? ⟨(w.heap.size + 1 + 1), 1, none⟩ = some (.int .i64 0) ∧ w1.cell? ⟨(w.heap.size + 1 + 1), 2, none⟩ = some (.bool false) ∧ w1.frozen? ⟨(w.heap.size + 1 + 1), 0, none⟩ = false ∧ w1.frozen? ⟨(w.heap.size + 1 + 1), 1, none⟩ = false ∧ w1.frozen? ⟨(w.heap.size + 1 + 1), 2, none⟩ = false :=
  ⟨(blk_cell h.t 0).trans rfl, (blk_cell h.t 1).trans rfl, (blk_cell h.t 2).trans rfl, (blk_cell h.t 3).trans rfl, (blk_cell h.t 4).trans rfl, (blk_cell h.t 5).trans rfl, (blk_cell h.t 6).trans rfl, (blk_cell h.t 7).trans rfl, (blk_cell h.t 8).trans rfl, (blk_cell h.r 0).trans rfl, (blk_cell h.r 1).trans rfl, (blk_cell h.r 2).trans rfl, (blk_cell h.z 0).trans rfl, (blk_cell h.z 1).trans rfl, (blk_cell h.z 2).trans rfl, blk_frozen h.z 0, blk_frozen h.z 1, blk_frozen h.z 2⟩
theorem PSt.done {w w1 : World} {a0_0 : ByteArray} {a0_1 a0_2 a0_3 a0_4 a0_5 a0_6 a0_7 a0_8 a1_0 a1_1 : Int} {a1_2 : Bool} (h : PSt w w1 a0_0 a0_1 a0_2 a0_3 a0_4 a0_5 a0_6 a0_7 a0_8 a1_0 a1_1 a1_2) (x y : Int) (z : Bool) : Below w.heap.size w (((w1.setCell ⟨(w.heap.size + 1 + 1), 0, none⟩ (.int .i64 x)).setCell ⟨(w.heap.size + 1 + 1), 1, none⟩ (.int .i64 y)).setCell ⟨(w.heap.size + 1 + 1), 2, none⟩ (.bool z)) :=
  ((h.below.setCell (p := ⟨(w.heap.size + 1 + 1), 0, none⟩) (by show w.heap.size ≤ w.heap.size + 1 + 1; omega) _).setCell (p := ⟨(w.heap.size + 1 + 1), 1, none⟩) (by show w.heap.size ≤ w.heap.size + 1 + 1; omega) _).setCell (p := ⟨(w.heap.size + 1 + 1), 2, none⟩) (by show w.heap.size ≤ w.heap.size + 1 + 1; omega) _
theorem PSt.blkDone {w w1 : World} {a0_0 : ByteArray} {a0_1 a0_2 a0_3 a0_4 a0_5 a0_6 a0_7 a0_8 a1_0 a1_1 : Int} {a1_2 : Bool} (h : PSt w w1 a0_0 a0_1 a0_2 a0_3 a0_4 a0_5 a0_6 a0_7 a0_8 a1_0 a1_1 a1_2) (x y : Int) (z : Bool) : (((w1.setCell ⟨(w.heap.size + 1 + 1), 0, none⟩ (.int .i64 x)).setCell ⟨(w.heap.size + 1 + 1), 1, none⟩ (.int .i64 y)).setCell ⟨(w.heap.size + 1 + 1), 2, none⟩ (.bool z)).heap[(w.heap.size + 1 + 1)]? = some (.cells #[.int .i64 x, .int .i64 y, .bool z] 27 (0, 0)) :=
  blk_put (blk_put (blk_put h.z 0 _ rfl) 1 _ rfl) 2 _ rfl
theorem PSt.far {w w1 : World} {a0_0 : ByteArray} {a0_1 a0_2 a0_3 a0_4 a0_5 a0_6 a0_7 a0_8 a1_0 a1_1 : Int} {a1_2 : Bool} (h : PSt w w1 a0_0 a0_1 a0_2 a0_3 a0_4 a0_5 a0_6 a0_7 a0_8 a1_0 a1_1 a1_2) {p : Addr} (hp : w.heap.size + 1 + 1 < p.block) (u : Value) : PSt w (w1.setCell p u) a0_0 a0_1 a0_2 a0_3 a0_4 a0_5 a0_6 a0_7 a0_8 a1_0 a1_1 a1_2 :=
  ⟨h.below.setCell (by omega) u, (Below.heap_setCell w1 p u _ (by omega)).trans h.t, (Below.heap_setCell w1 p u _ (by omega)).trans h.r, (Below.heap_setCell w1 p u _ (by omega)).trans h.z⟩
set_option maxHeartbeats 8000000 in
set_option maxRecDepth 1000000 in
theorem rig_Prepare.calls (a0_0 : ByteArray) (a0_1 : Int) (a0_2 : Int) (a0_3 : Int) (a0_4 : Int) (a0_5 : Int) (a0_6 : Int) (a0_7 : Int) (a0_8 : Int) (a1_0 a1_1 : Int) (a1_2 : Bool) (a2 a3 : Int) (r1 r2 : Int) (r3 : Bool) (r4 r5 : Int) (w : World) (h : rig_Prepare.f a0_0 a0_1 a0_2 a0_3 a0_4 a0_5 a0_6 a0_7 a0_8 a1_0 a1_1 a1_2 a2 a3 = some (r1, r2, r3, r4, r5)) :
    Calls Tryd.prog 13 #[.agg #[.string a0_0, .int .i64 a0_1, .int .i64 a0_2, .int .i64 a0_3, .int .i64 a0_4, .int .i64 a0_5, .int .i64 a0_6, .int .i64 a0_7, .int .i64 a0_8], .agg #[.int .i64 a1_0, .int .i64 a1_1, .bool a1_2], .int .i64 a2, .int .i64 a3] w fun e w' => e = .returned (.tuple #[.agg #[.int .i64 r1, .int .i64 r2, .bool r3], .int .i64 r4, .int .i64 r5]) ∧ Below w.heap.size w w' := by
  unfold rig_Prepare.f at h
  have h1 := Option.bind_eq_some_iff.mp h
  clear h
  obtain ⟨v, hv, h⟩ := h1
  have H := Lib.hid h
  have HV := Lib.hid hv
  clear h hv
  go_enter Tryd.func13, Tryd.ntmps13
  go_wp2_with fail
  refine (rig_Valid.calls a0_0 a0_1 a0_2 a0_3 a0_4 a0_5 a0_6 a0_7 a0_8 a1_0 a1_1 a1_2 v _ HV.out).mono ?_
  rintro e w1 ⟨rfl, hb⟩
  have S1 := Lib.hid ((PSt.start w a0_0 a0_1 a0_2 a0_3 a0_4 a0_5 a0_6 a0_7 a0_8 a1_0 a1_1 a1_2).go hb)
  clear hb HV
  obtain ⟨f0, f1, f2, f3, f4, f5, f6, f7, f8, f9, f10, f11, f12, f13, f14, f15, f16, f17⟩ := S1.out.facts
  cases v with
  | false =>
    have h := H.out
    rw [if_pos rfl] at h
    simp only [Option.some.injEq, Prod.mk.injEq] at h
    obtain ⟨rfl, rfl, rfl, rfl, rfl⟩ := h
    go_wp2_with fail
    have S := S1.out
    exact bodyPost_ret (results_ctt rfl _ _ (w.heap.size + 1 + 1) 27 #[.int .i64 0, .int .i64 0, .bool false] (0, 0) _ rfl (S.blkDone _ _ _) Tryd.underlying27 rfl (by kernel_rfl)) rfl ⟨rfl, S.done _ _ _⟩
  | true =>
    have h := H.out
    rw [if_neg (by decide)] at h
    have h1 := Option.bind_eq_some_iff.mp h
    clear h
    obtain ⟨u, hu, h⟩ := h1
    have H2 := Lib.hid h
    have HU := Lib.hid hu
    clear h hu H
    go_wp2_with fail
    refine (rig_within_int.calls a3 0 (wrap64 (a0_3 - 1)) u _ HU.out).mono ?_
    rintro e w2 ⟨rfl, nd, rfl⟩
    have s2 := S1.out.go (below_drewN (Below.refl _ _) nd)
    clear HU S1 f0 f1 f2 f3 f4 f5 f6 f7 f8 f9 f10 f11 f12 f13 f14 f15 f16 f17
    generalize w1.drewN nd = w2 at *
    have S2 := Lib.hid s2
    clear s2
    obtain ⟨f0, f1, f2, f3, f4, f5, f6, f7, f8, f9, f10, f11, f12, f13, f14, f15, f16, f17⟩ := S2.out.facts
    cases u with
    | false =>
      have h := H2.out
      rw [if_pos rfl] at h
      simp only [Option.some.injEq, Prod.mk.injEq] at h
      obtain ⟨rfl, rfl, rfl, rfl, rfl⟩ := h
      go_wp2_with fail
      have S := S2.out
      exact bodyPost_ret (results_ctt rfl _ _ (w.heap.size + 1 + 1) 27 #[.int .i64 0, .int .i64 0, .bool false] (0, 0) _ rfl (S.blkDone _ _ _) Tryd.underlying27 rfl (by kernel_rfl)) rfl ⟨rfl, S.done _ _ _⟩
    | true =>
      have h := H2.out
      rw [if_neg (by decide)] at h
      have H3 := Lib.hid h
      clear h H2
      go_wp2_with fail
      refine (move_calls a1_0 a2 _).mono ?_
      rintro e w3 ⟨rfl, hb⟩
      have h := H3.out
      clear H3
      generalize moveP a1_0 a2 = m at h ⊢
      obtain ⟨m1, m2, m3⟩ := m
      simp only at h ⊢
      have H := Lib.hid h
      have S3 := Lib.hid (S2.out.go hb)
      clear h hb S2 f0 f1 f2 f3 f4 f5 f6 f7 f8 f9 f10 f11 f12 f13 f14 f15 f16 f17
      obtain ⟨f0, f1, f2, f3, f4, f5, f6, f7, f8, f9, f10, f11, f12, f13, f14, f15, f16, f17⟩ := S3.out.facts
      by_cases h3 : m3 = 0
      · subst h3
        have h := H.out
        rw [if_neg (by decide)] at h
        have H4 := Lib.hid h
        clear h H
        have s4 := S3.out.go (below_new (Below.refl _ _) (.cells #[.int .i64 m1, .int .i64 a3, .bool a1_2] 27) (Nat.le_refl _))
        have n4 := blk_new w3 (.cells #[.int .i64 m1, .int .i64 a3, .bool a1_2] 27)
        have e4 : Hid (w.heap.size + 1 + 1 < w3.heap.size) := blk_lt S3.out.z
        go_upto_region 7 with (fail)
        clear f0 f1 f2 f3 f4 f5 f6 f7 f8 f9 f10 f11 f12 f13 f14 f15 f16 f17 S3
        generalize w3.alloc (.cells #[.int .i64 m1, .int .i64 a3, .bool a1_2] 27) = w4 at *
        generalize w3.heap.size = b14 at *
        obtain ⟨g0, g1, g2, g3, g4, g5, g6, g7, g8, g9, g10, g11, g12, g13, g14, g15, g16, g17⟩ := s4.facts
        have k0 : w4.cell? ⟨b14, 0, none⟩ = some (.int .i64 m1) := (blk_cell n4 0).trans rfl
        have k1 : w4.cell? ⟨b14, 1, none⟩ = some (.int .i64 a3) := (blk_cell n4 1).trans rfl
        have k2 : w4.cell? ⟨b14, 2, none⟩ = some (.bool a1_2) := (blk_cell n4 2).trans rfl
        have S4 := Lib.hid s4
        have N4 := Lib.hid n4
        clear s4 n4
        have h := H4.out
        clear H4
        by_cases hm : m1 = a1_0
        · subst hm
          by_cases h3 : a3 = a1_1
          · subst h3
            rw [if_pos ⟨rfl, rfl⟩] at h
            simp only [Option.some.injEq, Prod.mk.injEq] at h
            obtain ⟨rfl, rfl, rfl, rfl, rfl⟩ := h
            go_wp2_with fail
            have S := S4.out
            exact bodyPost_ret (results_ctt rfl _ _ (w.heap.size + 1 + 1) 27 #[.int .i64 m1, .int .i64 a3, .bool a1_2] (0, 0) _ rfl (S.blkDone _ _ _) Tryd.underlying27 rfl (by kernel_rfl)) rfl ⟨rfl, S.done _ _ _⟩
          · rw [if_neg (fun hh => h3 hh.2)] at h
            have q0 : (a3 == a1_1) = false := beq_eq_false_iff_ne.2 h3
            have q2 : (a3 != a1_1) = true := bne_iff_ne.2 h3
            cases a1_2 with
            | true =>
              rw [if_pos ⟨rfl, h3⟩] at h
              simp only [Option.some.injEq, Prod.mk.injEq] at h
              obtain ⟨rfl, rfl, rfl, rfl, rfl⟩ := h
              have q1 : decide (a3 = a1_1) = false := decide_eq_false h3
              go_wp2_with fail
              have S := S4.out
              exact bodyPost_ret (results_ctt rfl _ _ (w.heap.size + 1 + 1) 27 #[.int .i64 0, .int .i64 0, .bool false] (0, 0) _ rfl (S.blkDone _ _ _) Tryd.underlying27 rfl (by kernel_rfl)) rfl ⟨rfl, S.done _ _ _⟩
            | false =>
              rw [if_neg (fun hh => Bool.false_ne_true hh.1)] at h
              have q1 : decide (a3 = a1_1) = false := decide_eq_false h3
              clear h3
              have h1 := Option.bind_eq_some_iff.mp h
              clear h
              obtain ⟨⟨t1, t2⟩, ht, h⟩ := h1
              simp only at h
              have HT := Lib.hid ht
              have H6 := Lib.hid h
              clear h ht
              go_upto_region 12 with (fail)
              have s5 := S4.out.go (below_new (Below.refl _ _) (.cells #[.int .i64 (wrap64 (a0_2 * m2)), .int .i64 0] 44) (Nat.le_refl _))
              have n5 := blk_new w4 (.cells #[.int .i64 (wrap64 (a0_2 * m2)), .int .i64 0] 44)
              have m5 := blk_alloc N4.out (.cells #[.int .i64 (wrap64 (a0_2 * m2)), .int .i64 0] 44)
              have e5 : Hid (w.heap.size + 1 + 1 < w4.heap.size) := blk_lt S4.out.z
              have e6 : Hid (b14 < w4.heap.size) := blk_lt N4.out
              clear g0 g1 g2 g3 g4 g5 g6 g7 g8 g9 g10 g11 g12 g13 g14 g15 g16 g17 k0 k1 k2 S4 N4
              generalize w4.alloc (.cells #[.int .i64 (wrap64 (a0_2 * m2)), .int .i64 0] 44) = w5 at *
              generalize w4.heap.size = b15 at *
              obtain ⟨g0, g1, g2, g3, g4, g5, g6, g7, g8, g9, g10, g11, g12, g13, g14, g15, g16, g17⟩ := s5.facts
              have S5 := Lib.hid s5
              have N5 := Lib.hid n5
              have M5 := Lib.hid m5
              clear s5 n5 m5
              go_wp2_with fail
              refine (rig_Turn.calls _ _ _ _ _ _ _ _ _ _ _ t1 t2 _ HT.out).mono ?_
              rintro e w6 ⟨rfl, hb⟩
              have S6 := Lib.hid (S5.out.go hb)
              have N6 := Lib.hid (blk_below N5.out hb)
              have M6 := Lib.hid (blk_below M5.out hb)
              clear hb S5 N5 M5 g0 g1 g2 g3 g4 g5 g6 g7 g8 g9 g10 g11 g12 g13 g14 g15 g16 g17
              have c15a : w6.cell? ⟨b15, 1, none⟩ = some (.int .i64 0) := (blk_cell N6.out 1).trans rfl
              have c15f : w6.frozen? ⟨b15, 1, none⟩ = false := blk_frozen N6.out 1
              go_wp2_with fail
              have s7 := S6.out.far (p := ⟨b15, 1, none⟩) e5.out (.int .i64 t1)
              have n7 := blk_put N6.out 1 (.int .i64 t1) rfl
              have m7 := (Below.heap_setCell w6 ⟨b15, 1, none⟩ (.int .i64 t1) b14 (Nat.ne_of_lt e6.out)).trans M6.out
              clear S6 N6 M6 c15a c15f
              generalize w6.setCell ⟨b15, 1, none⟩ (.int .i64 t1) = w7 at *
              refine (max_calls b15 (wrap64 (a0_2 * m2)) t1 _ ((blk_cell n7 0).trans rfl) ((blk_cell n7 1).trans rfl)).mono ?_
              rintro e w8 ⟨rfl, rfl⟩
              obtain ⟨g0, g1, g2, g3, g4, g5, g6, g7, g8, g9, g10, g11, g12, g13, g14, g15, g16, g17⟩ := s7.facts
              have k0 := (blk_cell m7 0).trans rfl
              have k1 := (blk_cell m7 1).trans rfl
              have k2 := (blk_cell m7 2).trans rfl
              have S7 := Lib.hid s7
              clear s7 n7 m7
              have h := H6.out
              clear H6
              generalize max (wrap64 (a0_2 * m2)) t1 = mv at h ⊢
              by_cases h60 : mv > 60
              · rw [if_pos h60] at h
                simp only [Option.some.injEq, Prod.mk.injEq] at h
                obtain ⟨rfl, rfl, rfl, rfl, rfl⟩ := h
                have q6 : decide (60 < mv) = true := decide_eq_true h60
                clear h60
                go_wp2_with fail
                have S := S7.out
                exact bodyPost_ret (results_ctt rfl _ _ (w.heap.size + 1 + 1) 27 #[.int .i64 0, .int .i64 0, .bool false] (0, 0) _ rfl (S.blkDone _ _ _) Tryd.underlying27 rfl (by kernel_rfl)) rfl ⟨rfl, S.done _ _ _⟩
              · rw [if_neg h60] at h
                simp only [Option.some.injEq, Prod.mk.injEq] at h
                obtain ⟨rfl, rfl, rfl, rfl, rfl⟩ := h
                have q6 : decide (60 < mv) = false := decide_eq_false h60
                clear h60
                go_wp2_with fail
                have S := S7.out
                exact bodyPost_ret (results_ctt rfl _ _ (w.heap.size + 1 + 1) 27 #[.int .i64 _, .int .i64 _, .bool _] (0, 0) _ rfl (S.blkDone _ _ _) Tryd.underlying27 rfl (by kernel_rfl)) rfl ⟨rfl, S.done _ _ _⟩
        · rw [if_neg (fun hh => hm hh.1)] at h
          have q0 : (m1 == a1_0) = false := beq_eq_false_iff_ne.2 hm
          have q1 : decide (m1 = a1_0) = false := decide_eq_false hm
          clear hm
          cases a1_2 with
          | true =>
            by_cases h3 : a3 = a1_1
            · subst h3
              rw [if_neg (fun hh => hh.2 rfl)] at h
              have h1 := Option.bind_eq_some_iff.mp h
              clear h
              obtain ⟨⟨t1, t2⟩, ht, h⟩ := h1
              simp only at h
              have HT := Lib.hid ht
              have H6 := Lib.hid h
              clear h ht
              go_upto_region 12 with (fail)
              have s5 := S4.out.go (below_new (Below.refl _ _) (.cells #[.int .i64 (wrap64 (a0_2 * m2)), .int .i64 0] 44) (Nat.le_refl _))
              have n5 := blk_new w4 (.cells #[.int .i64 (wrap64 (a0_2 * m2)), .int .i64 0] 44)
              have m5 := blk_alloc N4.out (.cells #[.int .i64 (wrap64 (a0_2 * m2)), .int .i64 0] 44)
              have e5 : Hid (w.heap.size + 1 + 1 < w4.heap.size) := blk_lt S4.out.z
              have e6 : Hid (b14 < w4.heap.size) := blk_lt N4.out
              clear g0 g1 g2 g3 g4 g5 g6 g7 g8 g9 g10 g11 g12 g13 g14 g15 g16 g17 k0 k1 k2 S4 N4
              generalize w4.alloc (.cells #[.int .i64 (wrap64 (a0_2 * m2)), .int .i64 0] 44) = w5 at *
              generalize w4.heap.size = b15 at *
              obtain ⟨g0, g1, g2, g3, g4, g5, g6, g7, g8, g9, g10, g11, g12, g13, g14, g15, g16, g17⟩ := s5.facts
              have S5 := Lib.hid s5
              have N5 := Lib.hid n5
              have M5 := Lib.hid m5
              clear s5 n5 m5
              go_wp2_with fail
              refine (rig_Turn.calls _ _ _ _ _ _ _ _ _ _ _ t1 t2 _ HT.out).mono ?_
              rintro e w6 ⟨rfl, hb⟩
              have S6 := Lib.hid (S5.out.go hb)
              have N6 := Lib.hid (blk_below N5.out hb)
              have M6 := Lib.hid (blk_below M5.out hb)
              clear hb S5 N5 M5 g0 g1 g2 g3 g4 g5 g6 g7 g8 g9 g10 g11 g12 g13 g14 g15 g16 g17
              have c15a : w6.cell? ⟨b15, 1, none⟩ = some (.int .i64 0) := (blk_cell N6.out 1).trans rfl
              have c15f : w6.frozen? ⟨b15, 1, none⟩ = false := blk_frozen N6.out 1
              go_wp2_with fail
              have s7 := S6.out.far (p := ⟨b15, 1, none⟩) e5.out (.int .i64 t1)
              have n7 := blk_put N6.out 1 (.int .i64 t1) rfl
              have m7 := (Below.heap_setCell w6 ⟨b15, 1, none⟩ (.int .i64 t1) b14 (Nat.ne_of_lt e6.out)).trans M6.out
              clear S6 N6 M6 c15a c15f
              generalize w6.setCell ⟨b15, 1, none⟩ (.int .i64 t1) = w7 at *
              refine (max_calls b15 (wrap64 (a0_2 * m2)) t1 _ ((blk_cell n7 0).trans rfl) ((blk_cell n7 1).trans rfl)).mono ?_
              rintro e w8 ⟨rfl, rfl⟩
              obtain ⟨g0, g1, g2, g3, g4, g5, g6, g7, g8, g9, g10, g11, g12, g13, g14, g15, g16, g17⟩ := s7.facts
              have k0 := (blk_cell m7 0).trans rfl
              have k1 := (blk_cell m7 1).trans rfl
              have k2 := (blk_cell m7 2).trans rfl
              have S7 := Lib.hid s7
              clear s7 n7 m7
              have h := H6.out
              clear H6
              generalize max (wrap64 (a0_2 * m2)) t1 = mv at h ⊢
              by_cases h60 : mv > 60
              · rw [if_pos h60] at h
                simp only [Option.some.injEq, Prod.mk.injEq] at h
                obtain ⟨rfl, rfl, rfl, rfl, rfl⟩ := h
                have q6 : decide (60 < mv) = true := decide_eq_true h60
                clear h60
                go_wp2_with fail
                have S := S7.out
                exact bodyPost_ret (results_ctt rfl _ _ (w.heap.size + 1 + 1) 27 #[.int .i64 0, .int .i64 0, .bool false] (0, 0) _ rfl (S.blkDone _ _ _) Tryd.underlying27 rfl (by kernel_rfl)) rfl ⟨rfl, S.done _ _ _⟩
              · rw [if_neg h60] at h
                simp only [Option.some.injEq, Prod.mk.injEq] at h
                obtain ⟨rfl, rfl, rfl, rfl, rfl⟩ := h
                have q6 : decide (60 < mv) = false := decide_eq_false h60
                clear h60
                go_wp2_with fail
                have S := S7.out
                exact bodyPost_ret (results_ctt rfl _ _ (w.heap.size + 1 + 1) 27 #[.int .i64 _, .int .i64 _, .bool _] (0, 0) _ rfl (S.blkDone _ _ _) Tryd.underlying27 rfl (by kernel_rfl)) rfl ⟨rfl, S.done _ _ _⟩
            · rw [if_pos ⟨rfl, h3⟩] at h
              simp only [Option.some.injEq, Prod.mk.injEq] at h
              obtain ⟨rfl, rfl, rfl, rfl, rfl⟩ := h
              have q2 : (a3 != a1_1) = true := bne_iff_ne.2 h3
              clear h3
              go_wp2_with fail
              have S := S4.out
              exact bodyPost_ret (results_ctt rfl _ _ (w.heap.size + 1 + 1) 27 #[.int .i64 0, .int .i64 0, .bool false] (0, 0) _ rfl (S.blkDone _ _ _) Tryd.underlying27 rfl (by kernel_rfl)) rfl ⟨rfl, S.done _ _ _⟩
          | false =>
            rw [if_neg (fun hh => Bool.false_ne_true hh.1)] at h
            have h1 := Option.bind_eq_some_iff.mp h
            clear h
            obtain ⟨⟨t1, t2⟩, ht, h⟩ := h1
            simp only at h
            have HT := Lib.hid ht
            have H6 := Lib.hid h
            clear h ht
            go_upto_region 12 with (fail)
            have s5 := S4.out.go (below_new (Below.refl _ _) (.cells #[.int .i64 (wrap64 (a0_2 * m2)), .int .i64 0] 44) (Nat.le_refl _))
            have n5 := blk_new w4 (.cells #[.int .i64 (wrap64 (a0_2 * m2)), .int .i64 0] 44)
            have m5 := blk_alloc N4.out (.cells #[.int .i64 (wrap64 (a0_2 * m2)), .int .i64 0] 44)
            have e5 : Hid (w.heap.size + 1 + 1 < w4.heap.size) := blk_lt S4.out.z
            have e6 : Hid (b14 < w4.heap.size) := blk_lt N4.out
            clear g0 g1 g2 g3 g4 g5 g6 g7 g8 g9 g10 g11 g12 g13 g14 g15 g16 g17 k0 k1 k2 S4 N4
            generalize w4.alloc (.cells #[.int .i64 (wrap64 (a0_2 * m2)), .int .i64 0] 44) = w5 at *
            generalize w4.heap.size = b15 at *
            obtain ⟨g0, g1, g2, g3, g4, g5, g6, g7, g8, g9, g10, g11, g12, g13, g14, g15, g16, g17⟩ := s5.facts
            have S5 := Lib.hid s5
            have N5 := Lib.hid n5
            have M5 := Lib.hid m5
            clear s5 n5 m5
            go_wp2_with fail
            refine (rig_Turn.calls _ _ _ _ _ _ _ _ _ _ _ t1 t2 _ HT.out).mono ?_
            rintro e w6 ⟨rfl, hb⟩
            have S6 := Lib.hid (S5.out.go hb)
            have N6 := Lib.hid (blk_below N5.out hb)
            have M6 := Lib.hid (blk_below M5.out hb)
            clear hb S5 N5 M5 g0 g1 g2 g3 g4 g5 g6 g7 g8 g9 g10 g11 g12 g13 g14 g15 g16 g17
            have c15a : w6.cell? ⟨b15, 1, none⟩ = some (.int .i64 0) := (blk_cell N6.out 1).trans rfl
            have c15f : w6.frozen? ⟨b15, 1, none⟩ = false := blk_frozen N6.out 1
            go_wp2_with fail
            have s7 := S6.out.far (p := ⟨b15, 1, none⟩) e5.out (.int .i64 t1)
            have n7 := blk_put N6.out 1 (.int .i64 t1) rfl
            have m7 := (Below.heap_setCell w6 ⟨b15, 1, none⟩ (.int .i64 t1) b14 (Nat.ne_of_lt e6.out)).trans M6.out
            clear S6 N6 M6 c15a c15f
            generalize w6.setCell ⟨b15, 1, none⟩ (.int .i64 t1) = w7 at *
            refine (max_calls b15 (wrap64 (a0_2 * m2)) t1 _ ((blk_cell n7 0).trans rfl) ((blk_cell n7 1).trans rfl)).mono ?_
            rintro e w8 ⟨rfl, rfl⟩
            obtain ⟨g0, g1, g2, g3, g4, g5, g6, g7, g8, g9, g10, g11, g12, g13, g14, g15, g16, g17⟩ := s7.facts
            have k0 := (blk_cell m7 0).trans rfl
            have k1 := (blk_cell m7 1).trans rfl
            have k2 := (blk_cell m7 2).trans rfl
            have S7 := Lib.hid s7
            clear s7 n7 m7
            have h := H6.out
            clear H6
            generalize max (wrap64 (a0_2 * m2)) t1 = mv at h ⊢
            by_cases h60 : mv > 60
            · rw [if_pos h60] at h
              simp only [Option.some.injEq, Prod.mk.injEq] at h
              obtain ⟨rfl, rfl, rfl, rfl, rfl⟩ := h
              have q6 : decide (60 < mv) = true := decide_eq_true h60
              clear h60
              go_wp2_with fail
              have S := S7.out
              exact bodyPost_ret (results_ctt rfl _ _ (w.heap.size + 1 + 1) 27 #[.int .i64 0, .int .i64 0, .bool false] (0, 0) _ rfl (S.blkDone _ _ _) Tryd.underlying27 rfl (by kernel_rfl)) rfl ⟨rfl, S.done _ _ _⟩
            · rw [if_neg h60] at h
              simp only [Option.some.injEq, Prod.mk.injEq] at h
              obtain ⟨rfl, rfl, rfl, rfl, rfl⟩ := h
              have q6 : decide (60 < mv) = false := decide_eq_false h60
              clear h60
              go_wp2_with fail
              have S := S7.out
              exact bodyPost_ret (results_ctt rfl _ _ (w.heap.size + 1 + 1) 27 #[.int .i64 _, .int .i64 _, .bool _] (0, 0) _ rfl (S.blkDone _ _ _) Tryd.underlying27 rfl (by kernel_rfl)) rfl ⟨rfl, S.done _ _ _⟩
      · have h := H.out
        rw [if_pos h3] at h
        simp only [Option.some.injEq, Prod.mk.injEq] at h
        obtain ⟨rfl, rfl, rfl, rfl, rfl⟩ := h
        have hb3 : (m3 != 0) = true := bne_iff_ne.2 h3
        go_wp2_with fail
        have S := S3.out
        exact bodyPost_ret (results_ctt rfl _ _ (w.heap.size + 1 + 1) 27 #[.int .i64 0, .int .i64 0, .bool false] (0, 0) _ rfl (S.blkDone _ _ _) Tryd.underlying27 rfl (by kernel_rfl)) rfl ⟨rfl, S.done _ _ _⟩
end Go.Proofs.YtfklhpdnbbefbaaDoor.Px
