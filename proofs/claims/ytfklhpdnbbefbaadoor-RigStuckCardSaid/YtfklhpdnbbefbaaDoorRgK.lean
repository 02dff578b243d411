/-
  RigStuck walked by hand: what the stuck wheel gives beside the free one.
-/
import Derived.Test.YtfklhpdnbbefbaaDoorRgQs
import Derived.Deep.RegionHeld3
namespace Go.Proofs.YtfklhpdnbbefbaaDoor.Px
open Go.RowKit Go.Proofs.YtfklhpdnbbefbaaDoorW.PrintWords Go.Proofs.YtfklhpdnbbefbaaDoorW.PrintLast Go.Proofs.YtfklhpdnbbefbaaDoor.Rg Go.Proofs.YtfklhpdnbbefbaaDoor.Lx
set_option linter.unusedVariables false
set_option linter.unusedSimpArgs false
theorem stuck_rel (id : ByteArray) (site speed F at_ fl c f : Int) :
    ((prepP id site speed F at_ fl false c f).2.2.2.2 = 1 ∧ (prepP id site speed F at_ fl true c f).2.2.2.2 = 1) ∨
    (f ≠ fl ∧ (prepP id site speed F at_ fl false c f).2.2.2.2 ≠ 1 ∧ (prepP id site speed F at_ fl true c f).2.2.2.2 = 20 ∧ (prepP id site speed F at_ fl false c f).2.2.2.2 ≠ 20) ∨
    (f = fl ∧ (prepP id site speed F at_ fl false c f).2.2.2.2 ≠ 1 ∧ (prepP id site speed F at_ fl true c f).2.2.2.2 = (prepP id site speed F at_ fl false c f).2.2.2.2 ∧ (prepP id site speed F at_ fl true c f).2.2.2.1 = (prepP id site speed F at_ fl false c f).2.2.2.1 ∧
      (((prepP id site speed F at_ fl false c f).2.2.2.2 = 0 ∧ (prepP id site speed F at_ fl true c f).1 = (prepP id site speed F at_ fl false c f).1 ∧ (prepP id site speed F at_ fl true c f).2.1 = (prepP id site speed F at_ fl false c f).2.1 ∧ (prepP id site speed F at_ fl true c f).2.2.1 = true) ∨
       ((prepP id site speed F at_ fl false c f).2.2.2.2 ≠ 0 ∧ (prepP id site speed F at_ fl true c f).1 = (prepP id site speed F at_ fl false c f).1 ∧ (prepP id site speed F at_ fl true c f).2.1 = (prepP id site speed F at_ fl false c f).2.1 ∧ (prepP id site speed F at_ fl true c f).2.2.1 = (prepP id site speed F at_ fl false c f).2.2.1))) := by
  by_cases hP : PrepOk id site speed F at_ fl c f
  · have e1 : ∀ s, prepP id site speed F at_ fl s c f = prepM speed F at_ fl s f (moveP at_ c).1 (moveP at_ c).2.1 := fun s => by unfold prepP; rw [if_pos hP]
    rw [e1, e1]
    generalize (moveP at_ c).1 = p
    generalize (moveP at_ c).2.1 = d
    unfold prepM
    by_cases hf : f = fl
    · subst hf
      right; right
      by_cases hp : p = at_
      · simp [hp]
      · simp only [hp, false_and, if_false, ne_eq, not_true, and_false]
        split <;> simp
    · right; left
      simp only [hf, and_false, if_false, ne_eq, not_false_eq_true, and_true, Bool.false_eq_true, if_true]
      split <;> simp [hf]
  · have e1 : ∀ s, prepP id site speed F at_ fl s c f = (0, 0, false, 0, 1) := fun s => by unfold prepP; rw [if_neg hP]
    rw [e1, e1]; exact Or.inl ⟨rfl, rfl⟩
set_option maxHeartbeats 8000000 in
set_option maxRecDepth 1000000 in
theorem stuck_calls (s : ByteArray) (t1 t2 t3 t4 t5 t6 t7 t8 x y : Int) (z : Bool) (c f : Int) (w : World) :
    Calls Tryd.prog 7 #[.agg #[.string s, .int .i64 t1, .int .i64 t2, .int .i64 t3, .int .i64 t4, .int .i64 t5, .int .i64 t6, .int .i64 t7, .int .i64 t8], .agg #[.int .i64 x, .int .i64 y, .bool z], .int .i64 c, .int .i64 f] w fun e w' => e = .returned (.bool true) ∧ Below w.heap.size w w' := by
  have hrel := stuck_rel s t1 t2 t3 x y c f
  obtain ⟨P, hP⟩ : ∃ P, prepP s t1 t2 t3 x y false c f = P := ⟨_, rfl⟩
  obtain ⟨Q, hQ⟩ : ∃ Q, prepP s t1 t2 t3 x y true c f = Q := ⟨_, rfl⟩
  have hpf := prep_eq s t1 t2 t3 t4 t5 t6 t7 t8 x y false c f
  have hpt := prep_eq s t1 t2 t3 t4 t5 t6 t7 t8 x y true c f
  rw [hP, hQ] at hrel
  rw [hP] at hpf
  rw [hQ] at hpt
  clear hP hQ
  obtain ⟨p1, p2, p3, p4, p5⟩ := P
  obtain ⟨q1, q2, q3, q4, q5⟩ := Q
  simp only at hrel
  have HREL := Lib.hid hrel
  have HPF := Lib.hid hpf
  have HPT := Lib.hid hpt
  clear hrel hpf hpt
  go_enter Tryd.func7, Tryd.ntmps7
  go_upto_region 1 with (fail)
  have S0 := Lib.hid (QSt.start w s t1 t2 t3 t4 t5 t6 t7 t8 x y z)
  generalize ((w.alloc (.cells #[.string s, .int .i64 t1, .int .i64 t2, .int .i64 t3, .int .i64 t4, .int .i64 t5, .int .i64 t6, .int .i64 t7, .int .i64 t8] 25)).alloc (.cells #[.int .i64 x, .int .i64 y, .bool z] 27)) = w0 at *
  go_wp2_with fail
  refine (observatorylaw14_head.calls true _ rfl).mono ?_
  rintro e w1 ⟨rfl, hb⟩
  have S1 := Lib.hid (S0.out.go hb)
  clear hb S0
  obtain ⟨f0, f1, f2, f3, f4, f5, f6, f7, f8, f9, f10, f11⟩ := S1.out.facts
  go_wp2_with fail
  by_cases h60 : (s.size : Int) ≤ 60
  · refine (observatorylaw14_few.calls s t1 t2 t3 t4 t5 t6 t7 t8 true _ (by unfold observatorylaw14_few.f; rw [decide_eq_true h60])).mono ?_
    rintro e w2 ⟨rfl, hb⟩
    have S2 := Lib.hid (S1.out.go hb)
    clear hb S1 f0 f1 f2 f3 f4 f5 f6 f7 f8 f9 f10 f11
    obtain ⟨f0, f1, f2, f3, f4, f5, f6, f7, f8, f9, f10, f11⟩ := S2.out.facts
    go_upto_region 4 with (fail)
    have e9 := World.new_ne w2 ⟨w.heap.size + 1, 0, none⟩ f9
    have e10 := World.new_ne w2 ⟨w.heap.size + 1, 1, none⟩ f10
    have e11 := World.new_ne w2 ⟨w.heap.size + 1, 2, none⟩ f11
    go_region_held3 (fun w' => w'.cell? ⟨w.heap.size + 1, 0, none⟩ = some (.int .i64 x) ∧ w'.cell? ⟨w.heap.size + 1, 1, none⟩ = some (.int .i64 y) ∧ w'.cell? ⟨w.heap.size + 1, 2, none⟩ = some (.bool z)) (go_keep) (fail)
    · have s3 : QSt w (((w2.alloc (.cells #[.int .i64 x, .int .i64 y, .bool z] 27)).alloc (.cells #[.int .i64 x, .int .i64 y, .bool z] 27)).drew) s t1 t2 t3 t4 t5 t6 t7 t8 x y z := S2.out.go (below_drew1 (below_new (below_new (Below.refl _ _) _ (Nat.le_refl _)) _ (Nat.le_refl _)))
      have b0 : (((w2.alloc (.cells #[.int .i64 x, .int .i64 y, .bool z] 27)).alloc (.cells #[.int .i64 x, .int .i64 y, .bool z] 27)).drew).heap[w2.heap.size]? = some (.cells #[.int .i64 x, .int .i64 y, .bool z] 27 (0, 0)) := blk_drew (blk_alloc (blk_new w2 _) _)
      have b1 : (((w2.alloc (.cells #[.int .i64 x, .int .i64 y, .bool z] 27)).alloc (.cells #[.int .i64 x, .int .i64 y, .bool z] 27)).drew).heap[w2.heap.size + 1]? = some (.cells #[.int .i64 x, .int .i64 y, .bool z] 27 (0, 0)) := by
        have h := blk_new (w2.alloc (.cells #[.int .i64 x, .int .i64 y, .bool z] 27)) (.cells #[.int .i64 x, .int .i64 y, .bool z] 27)
        rw [show (w2.alloc (.cells #[.int .i64 x, .int .i64 y, .bool z] 27)).heap.size = w2.heap.size + 1 by simp] at h
        exact blk_drew h
      have e2 : Hid (w.heap.size + 1 < w2.heap.size) := blk_lt S2.out.r
      clear S2 f0 f1 f2 f3 f4 f5 f6 f7 f8 f9 f10 f11 e9 e10 e11
      generalize ((w2.alloc (.cells #[.int .i64 x, .int .i64 y, .bool z] 27)).alloc (.cells #[.int .i64 x, .int .i64 y, .bool z] 27)).drew = w3 at *
      generalize w2.heap.size = n at *
      have S3 := Lib.hid s3
      have B0 := Lib.hid b0
      have B1 := Lib.hid b1
      clear s3 b0 b1
      obtain ⟨f0, f1, f2, f3, f4, f5, f6, f7, f8, f9, f10, f11⟩ := S3.out.facts
      have c2 : w3.cell? ⟨n, 2, none⟩ = some (.bool z) := (blk_cell B0.out 2).trans rfl
      have d2 : w3.cell? ⟨n + 1, 2, none⟩ = some (.bool z) := (blk_cell B1.out 2).trans rfl
      have c2f : w3.frozen? ⟨n, 2, none⟩ = false := blk_frozen B0.out 2
      have d2f : w3.frozen? ⟨n + 1, 2, none⟩ = false := blk_frozen B1.out 2
      go_upto_region 6 with (fail)
      have e2' := e2.out
      have s4 := (S3.out.far (p := ⟨n, 2, none⟩) (by show w.heap.size + 1 < n; omega) (.bool false)).far (p := ⟨n + 1, 2, none⟩) (by show w.heap.size + 1 < n + 1; omega) (.bool true)
      have ba := (Below.heap_setCell (w3.setCell ⟨n, 2, none⟩ (.bool false)) ⟨n + 1, 2, none⟩ (.bool true) (n) (by show n ≠ n + 1; omega)).trans (blk_put B0.out 2 (.bool false) rfl)
      have bb := blk_put ((Below.heap_setCell w3 ⟨n, 2, none⟩ (.bool false) (n + 1) (by show n + 1 ≠ n; omega)).trans B1.out) 2 (.bool true) rfl
      clear S3 B0 B1 f0 f1 f2 f3 f4 f5 f6 f7 f8 f9 f10 f11 c2 d2 c2f d2f e2'
      generalize (w3.setCell ⟨n, 2, none⟩ (.bool false)).setCell ⟨n + 1, 2, none⟩ (.bool true) = w4 at *
      have S4 := Lib.hid s4
      have BA4 := Lib.hid ba
      have BB4 := Lib.hid bb
      clear s4 ba bb
      obtain ⟨f0, f1, f2, f3, f4, f5, f6, f7, f8, f9, f10, f11⟩ := S4.out.facts
      have a0 : w4.cell? ⟨n, 0, none⟩ = some (.int .i64 x) := (blk_cell BA4.out 0).trans rfl
      have a1 : w4.cell? ⟨n, 1, none⟩ = some (.int .i64 y) := (blk_cell BA4.out 1).trans rfl
      have a2 : w4.cell? ⟨n, 2, none⟩ = some (.bool false) := (blk_cell BA4.out 2).trans rfl
      go_wp2_with fail
      refine (rig_Prepare.calls _ _ _ _ _ _ _ _ _ _ _ _ _ _ p1 p2 p3 p4 p5 _ HPF.out).mono ?_
      rintro e w5 ⟨rfl, hb⟩
      have S5 := Lib.hid (S4.out.go hb)
      have BB5 := Lib.hid (blk_below BB4.out hb)
      clear hb S4 BA4 BB4 f0 f1 f2 f3 f4 f5 f6 f7 f8 f9 f10 f11 a0 a1 a2
      obtain ⟨f0, f1, f2, f3, f4, f5, f6, f7, f8, f9, f10, f11⟩ := S5.out.facts
      go_upto_region 7 with (fail)
      have s6 := S5.out.go (below_new (Below.refl _ _) (.cells #[.int .i64 p1, .int .i64 p2, .bool p3] 27) (Nat.le_refl _))
      have n6 := blk_new w5 (.cells #[.int .i64 p1, .int .i64 p2, .bool p3] 27)
      have bb6 := blk_alloc BB5.out (.cells #[.int .i64 p1, .int .i64 p2, .bool p3] 27)
      have S5' := S5
      clear S5 BB5 f0 f1 f2 f3 f4 f5 f6 f7 f8 f9 f10 f11
      generalize w5.alloc (.cells #[.int .i64 p1, .int .i64 p2, .bool p3] 27) = w6 at *
      have e12 : Hid (w.heap.size ≤ w5.heap.size) := Nat.le_of_lt (Nat.lt_of_succ_lt (blk_lt S5'.out.r))
      clear S5'
      generalize w5.heap.size = g12 at *
      have S6 := Lib.hid s6
      have N6 := Lib.hid n6
      have BB6 := Lib.hid bb6
      clear s6 n6 bb6
      obtain ⟨f0, f1, f2, f3, f4, f5, f6, f7, f8, f9, f10, f11⟩ := S6.out.facts
      have a0 : w6.cell? ⟨n + 1, 0, none⟩ = some (.int .i64 x) := (blk_cell BB6.out 0).trans rfl
      have a1 : w6.cell? ⟨n + 1, 1, none⟩ = some (.int .i64 y) := (blk_cell BB6.out 1).trans rfl
      have a2 : w6.cell? ⟨n + 1, 2, none⟩ = some (.bool true) := (blk_cell BB6.out 2).trans rfl
      go_wp2_with fail
      refine (rig_Prepare.calls _ _ _ _ _ _ _ _ _ _ _ _ _ _ q1 q2 q3 q4 q5 _ HPT.out).mono ?_
      rintro e w7 ⟨rfl, hb⟩
      have S7 := Lib.hid (S6.out.go hb)
      have N7 := Lib.hid (blk_below N6.out hb)
      clear hb S6 N6 BB6 f0 f1 f2 f3 f4 f5 f6 f7 f8 f9 f10 f11 a0 a1 a2
      obtain ⟨f0, f1, f2, f3, f4, f5, f6, f7, f8, f9, f10, f11⟩ := S7.out.facts
      go_upto_region 8 with (fail)
      have s8 := S7.out.go (below_new (Below.refl _ _) (.cells #[.int .i64 q1, .int .i64 q2, .bool q3] 27) (Nat.le_refl _))
      have n8 := blk_alloc N7.out (.cells #[.int .i64 q1, .int .i64 q2, .bool q3] 27)
      have m8 := blk_new w7 (.cells #[.int .i64 q1, .int .i64 q2, .bool q3] 27)
      have e8 : Hid (g12 < w7.heap.size) := blk_lt N7.out
      have e9 : Hid (w.heap.size + 1 < w7.heap.size) := blk_lt S7.out.r
      clear S7 N7 f0 f1 f2 f3 f4 f5 f6 f7 f8 f9 f10 f11
      generalize w7.alloc (.cells #[.int .i64 q1, .int .i64 q2, .bool q3] 27) = w8 at *
      generalize w7.heap.size = g15 at *
      have S8 := Lib.hid s8
      have N8 := Lib.hid n8
      have M8 := Lib.hid m8
      clear s8 n8 m8
      obtain ⟨f0, f1, f2, f3, f4, f5, f6, f7, f8, f9, f10, f11⟩ := S8.out.facts
      have a0 : w8.cell? ⟨g12, 0, none⟩ = some (.int .i64 p1) := (blk_cell N8.out 0).trans rfl
      have a1 : w8.cell? ⟨g12, 1, none⟩ = some (.int .i64 p2) := (blk_cell N8.out 1).trans rfl
      have a2 : w8.cell? ⟨g12, 2, none⟩ = some (.bool p3) := (blk_cell N8.out 2).trans rfl
      have a2f : w8.frozen? ⟨g12, 2, none⟩ = false := blk_frozen N8.out 2
      have k0 : w8.cell? ⟨g15, 0, none⟩ = some (.int .i64 q1) := (blk_cell M8.out 0).trans rfl
      have k1 : w8.cell? ⟨g15, 1, none⟩ = some (.int .i64 q2) := (blk_cell M8.out 1).trans rfl
      have k2 : w8.cell? ⟨g15, 2, none⟩ = some (.bool q3) := (blk_cell M8.out 2).trans rfl
      rcases HREL.out with ⟨h1, h2⟩ | ⟨h1, h2, h3, h4⟩ | ⟨h1, h2, h3, h4, ⟨h5, h6, h7, h8⟩ | ⟨h5, h6, h7, h8⟩⟩
      · subst h1 h2
        go_wp2_with fail
        go_ret
        exact ⟨rfl, S8.out.below⟩
      · subst h3
        have u0 : (p5 == 1) = false := beq_eq_false_iff_ne.2 h2
        have u1 : (p5 == 20) = false := beq_eq_false_iff_ne.2 h4
        have u2 : (p5 != 20) = true := bne_iff_ne.2 h4
        have u3 : (f != y) = true := bne_iff_ne.2 h1
        clear h1 h2 h4
        go_wp2_with fail
        go_ret
        exact ⟨rfl, S8.out.below⟩
      · subst h1 h3 h4 h5 h6 h7 h8
        have hne : g12 ≠ g15 := by have := e8.out; omega
        have hne' : g15 ≠ g12 := fun hh => hne hh.symm
        go_wp2_with fail
        go_ret
        exact ⟨rfl, S8.out.below.setCell (p := ⟨g12, 2, none⟩) (by show w.heap.size ≤ g12; exact e12.out) _⟩
      · subst h1 h3 h4 h6 h7 h8
        have u0 : (q5 == 1) = false := beq_eq_false_iff_ne.2 h2
        have u1 : (q5 == 0) = false := beq_eq_false_iff_ne.2 h5
        clear h2 h5
        go_wp2_with fail
        go_ret
        exact ⟨rfl, S8.out.below⟩
    · have s3 : QSt w (((w2.alloc (.cells #[.int .i64 x, .int .i64 y, .bool z] 27)).alloc (.cells #[.int .i64 x, .int .i64 y, .bool z] 27)).drew) s t1 t2 t3 t4 t5 t6 t7 t8 x y z := S2.out.go (below_drew1 (below_new (below_new (Below.refl _ _) _ (Nat.le_refl _)) _ (Nat.le_refl _)))
      have b0 : (((w2.alloc (.cells #[.int .i64 x, .int .i64 y, .bool z] 27)).alloc (.cells #[.int .i64 x, .int .i64 y, .bool z] 27)).drew).heap[w2.heap.size]? = some (.cells #[.int .i64 x, .int .i64 y, .bool z] 27 (0, 0)) := blk_drew (blk_alloc (blk_new w2 _) _)
      have b1 : (((w2.alloc (.cells #[.int .i64 x, .int .i64 y, .bool z] 27)).alloc (.cells #[.int .i64 x, .int .i64 y, .bool z] 27)).drew).heap[w2.heap.size + 1]? = some (.cells #[.int .i64 x, .int .i64 y, .bool z] 27 (0, 0)) := by
        have h := blk_new (w2.alloc (.cells #[.int .i64 x, .int .i64 y, .bool z] 27)) (.cells #[.int .i64 x, .int .i64 y, .bool z] 27)
        rw [show (w2.alloc (.cells #[.int .i64 x, .int .i64 y, .bool z] 27)).heap.size = w2.heap.size + 1 by simp] at h
        exact blk_drew h
      have e2 : Hid (w.heap.size + 1 < w2.heap.size) := blk_lt S2.out.r
      clear S2 f0 f1 f2 f3 f4 f5 f6 f7 f8 f9 f10 f11 e9 e10 e11
      generalize ((w2.alloc (.cells #[.int .i64 x, .int .i64 y, .bool z] 27)).alloc (.cells #[.int .i64 x, .int .i64 y, .bool z] 27)).drew = w3 at *
      generalize w2.heap.size = n at *
      have S3 := Lib.hid s3
      have B0 := Lib.hid b0
      have B1 := Lib.hid b1
      clear s3 b0 b1
      obtain ⟨f0, f1, f2, f3, f4, f5, f6, f7, f8, f9, f10, f11⟩ := S3.out.facts
      have c2 : w3.cell? ⟨n, 2, none⟩ = some (.bool z) := (blk_cell B0.out 2).trans rfl
      have d2 : w3.cell? ⟨n + 1, 2, none⟩ = some (.bool z) := (blk_cell B1.out 2).trans rfl
      have c2f : w3.frozen? ⟨n, 2, none⟩ = false := blk_frozen B0.out 2
      have d2f : w3.frozen? ⟨n + 1, 2, none⟩ = false := blk_frozen B1.out 2
      go_upto_region 6 with (fail)
      have e2' := e2.out
      have s4 := (S3.out.far (p := ⟨n + 1, 2, none⟩) (by show w.heap.size + 1 < n + 1; omega) (.bool false)).far (p := ⟨n, 2, none⟩) (by show w.heap.size + 1 < n; omega) (.bool true)
      have ba := (Below.heap_setCell (w3.setCell ⟨n + 1, 2, none⟩ (.bool false)) ⟨n, 2, none⟩ (.bool true) (n + 1) (by show n + 1 ≠ n; omega)).trans (blk_put B1.out 2 (.bool false) rfl)
      have bb := blk_put ((Below.heap_setCell w3 ⟨n + 1, 2, none⟩ (.bool false) (n) (by show n ≠ n + 1; omega)).trans B0.out) 2 (.bool true) rfl
      clear S3 B0 B1 f0 f1 f2 f3 f4 f5 f6 f7 f8 f9 f10 f11 c2 d2 c2f d2f e2'
      generalize (w3.setCell ⟨n + 1, 2, none⟩ (.bool false)).setCell ⟨n, 2, none⟩ (.bool true) = w4 at *
      have S4 := Lib.hid s4
      have BA4 := Lib.hid ba
      have BB4 := Lib.hid bb
      clear s4 ba bb
      obtain ⟨f0, f1, f2, f3, f4, f5, f6, f7, f8, f9, f10, f11⟩ := S4.out.facts
      have a0 : w4.cell? ⟨n + 1, 0, none⟩ = some (.int .i64 x) := (blk_cell BA4.out 0).trans rfl
      have a1 : w4.cell? ⟨n + 1, 1, none⟩ = some (.int .i64 y) := (blk_cell BA4.out 1).trans rfl
      have a2 : w4.cell? ⟨n + 1, 2, none⟩ = some (.bool false) := (blk_cell BA4.out 2).trans rfl
      go_wp2_with fail
      refine (rig_Prepare.calls _ _ _ _ _ _ _ _ _ _ _ _ _ _ p1 p2 p3 p4 p5 _ HPF.out).mono ?_
      rintro e w5 ⟨rfl, hb⟩
      have S5 := Lib.hid (S4.out.go hb)
      have BB5 := Lib.hid (blk_below BB4.out hb)
      clear hb S4 BA4 BB4 f0 f1 f2 f3 f4 f5 f6 f7 f8 f9 f10 f11 a0 a1 a2
      obtain ⟨f0, f1, f2, f3, f4, f5, f6, f7, f8, f9, f10, f11⟩ := S5.out.facts
      go_upto_region 7 with (fail)
      have s6 := S5.out.go (below_new (Below.refl _ _) (.cells #[.int .i64 p1, .int .i64 p2, .bool p3] 27) (Nat.le_refl _))
      have n6 := blk_new w5 (.cells #[.int .i64 p1, .int .i64 p2, .bool p3] 27)
      have bb6 := blk_alloc BB5.out (.cells #[.int .i64 p1, .int .i64 p2, .bool p3] 27)
      have S5' := S5
      clear S5 BB5 f0 f1 f2 f3 f4 f5 f6 f7 f8 f9 f10 f11
      generalize w5.alloc (.cells #[.int .i64 p1, .int .i64 p2, .bool p3] 27) = w6 at *
      have e12 : Hid (w.heap.size ≤ w5.heap.size) := Nat.le_of_lt (Nat.lt_of_succ_lt (blk_lt S5'.out.r))
      clear S5'
      generalize w5.heap.size = g12 at *
      have S6 := Lib.hid s6
      have N6 := Lib.hid n6
      have BB6 := Lib.hid bb6
      clear s6 n6 bb6
      obtain ⟨f0, f1, f2, f3, f4, f5, f6, f7, f8, f9, f10, f11⟩ := S6.out.facts
      have a0 : w6.cell? ⟨n, 0, none⟩ = some (.int .i64 x) := (blk_cell BB6.out 0).trans rfl
      have a1 : w6.cell? ⟨n, 1, none⟩ = some (.int .i64 y) := (blk_cell BB6.out 1).trans rfl
      have a2 : w6.cell? ⟨n, 2, none⟩ = some (.bool true) := (blk_cell BB6.out 2).trans rfl
      go_wp2_with fail
      refine (rig_Prepare.calls _ _ _ _ _ _ _ _ _ _ _ _ _ _ q1 q2 q3 q4 q5 _ HPT.out).mono ?_
      rintro e w7 ⟨rfl, hb⟩
      have S7 := Lib.hid (S6.out.go hb)
      have N7 := Lib.hid (blk_below N6.out hb)
      clear hb S6 N6 BB6 f0 f1 f2 f3 f4 f5 f6 f7 f8 f9 f10 f11 a0 a1 a2
      obtain ⟨f0, f1, f2, f3, f4, f5, f6, f7, f8, f9, f10, f11⟩ := S7.out.facts
      go_upto_region 8 with (fail)
      have s8 := S7.out.go (below_new (Below.refl _ _) (.cells #[.int .i64 q1, .int .i64 q2, .bool q3] 27) (Nat.le_refl _))
      have n8 := blk_alloc N7.out (.cells #[.int .i64 q1, .int .i64 q2, .bool q3] 27)
      have m8 := blk_new w7 (.cells #[.int .i64 q1, .int .i64 q2, .bool q3] 27)
      have e8 : Hid (g12 < w7.heap.size) := blk_lt N7.out
      have e9 : Hid (w.heap.size + 1 < w7.heap.size) := blk_lt S7.out.r
      clear S7 N7 f0 f1 f2 f3 f4 f5 f6 f7 f8 f9 f10 f11
      generalize w7.alloc (.cells #[.int .i64 q1, .int .i64 q2, .bool q3] 27) = w8 at *
      generalize w7.heap.size = g15 at *
      have S8 := Lib.hid s8
      have N8 := Lib.hid n8
      have M8 := Lib.hid m8
      clear s8 n8 m8
      obtain ⟨f0, f1, f2, f3, f4, f5, f6, f7, f8, f9, f10, f11⟩ := S8.out.facts
      have a0 : w8.cell? ⟨g12, 0, none⟩ = some (.int .i64 p1) := (blk_cell N8.out 0).trans rfl
      have a1 : w8.cell? ⟨g12, 1, none⟩ = some (.int .i64 p2) := (blk_cell N8.out 1).trans rfl
      have a2 : w8.cell? ⟨g12, 2, none⟩ = some (.bool p3) := (blk_cell N8.out 2).trans rfl
      have a2f : w8.frozen? ⟨g12, 2, none⟩ = false := blk_frozen N8.out 2
      have k0 : w8.cell? ⟨g15, 0, none⟩ = some (.int .i64 q1) := (blk_cell M8.out 0).trans rfl
      have k1 : w8.cell? ⟨g15, 1, none⟩ = some (.int .i64 q2) := (blk_cell M8.out 1).trans rfl
      have k2 : w8.cell? ⟨g15, 2, none⟩ = some (.bool q3) := (blk_cell M8.out 2).trans rfl
      rcases HREL.out with ⟨h1, h2⟩ | ⟨h1, h2, h3, h4⟩ | ⟨h1, h2, h3, h4, ⟨h5, h6, h7, h8⟩ | ⟨h5, h6, h7, h8⟩⟩
      · subst h1 h2
        go_wp2_with fail
        go_ret
        exact ⟨rfl, S8.out.below⟩
      · subst h3
        have u0 : (p5 == 1) = false := beq_eq_false_iff_ne.2 h2
        have u1 : (p5 == 20) = false := beq_eq_false_iff_ne.2 h4
        have u2 : (p5 != 20) = true := bne_iff_ne.2 h4
        have u3 : (f != y) = true := bne_iff_ne.2 h1
        clear h1 h2 h4
        go_wp2_with fail
        go_ret
        exact ⟨rfl, S8.out.below⟩
      · subst h1 h3 h4 h5 h6 h7 h8
        have hne : g12 ≠ g15 := by have := e8.out; omega
        have hne' : g15 ≠ g12 := fun hh => hne hh.symm
        go_wp2_with fail
        go_ret
        exact ⟨rfl, S8.out.below.setCell (p := ⟨g12, 2, none⟩) (by show w.heap.size ≤ g12; exact e12.out) _⟩
      · subst h1 h3 h4 h6 h7 h8
        have u0 : (q5 == 1) = false := beq_eq_false_iff_ne.2 h2
        have u1 : (q5 == 0) = false := beq_eq_false_iff_ne.2 h5
        clear h2 h5
        go_wp2_with fail
        go_ret
        exact ⟨rfl, S8.out.below⟩
  · refine (observatorylaw14_few.calls s t1 t2 t3 t4 t5 t6 t7 t8 false _ (by unfold observatorylaw14_few.f; rw [decide_eq_false h60])).mono ?_
    rintro e w2 ⟨rfl, hb⟩
    have S2 := Lib.hid (S1.out.go hb)
    clear hb
    go_wp2_with fail
    go_ret
    exact ⟨rfl, S2.out.below⟩
end Go.Proofs.YtfklhpdnbbefbaaDoor.Px
