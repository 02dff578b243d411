/-
  mount.Move: the nearest position of a column, by the plan for one column.
-/
import Derived.Test.YtfklhpdnbbefbaaDoorRgT
namespace Go.Proofs.YtfklhpdnbbefbaaDoor.Rg
open Go.RowKit Go.Proofs.YtfklhpdnbbefbaaDoorW.PrintWords Go.Proofs.YtfklhpdnbbefbaaDoor.Lx Go.Proofs.YtfklhpdnbbefbaaDoor.Pm
set_option linter.unusedVariables false
set_option linter.unusedSimpArgs false
theorem quiet_same2 {P : Program} {f : FuncId} {args : Array Value} {w : World} {a n : Nat} {v : Value}
    (h : Calls P f args (w.drewN (a + n)) fun e w' => e = .returned v ∧ w' = w.drewN (a + n)) :
    Calls P f args (w.drewN (a + n)) fun e w'' => e = .returned v ∧ ∃ m, w'' = w.drewN (a + m) :=
  h.mono fun _ _ ⟨he, hm⟩ => ⟨he, n, hm⟩
theorem hp_drew (w : World) (n : Nat) : (w.drewN n).heap = w.heap := by simp
theorem IsLen.drewN' {w : World} {B : Nat} {m : List Int} (h : IsLen w B m) (n : Nat) : IsLen (w.drewN n) B m := ⟨h.1, by rw [hp_drew]; exact h.2⟩
set_option maxHeartbeats 4000000 in
set_option maxRecDepth 1000000 in
theorem plan_good (s c : Nat) (hs : s < 97) (hc : c < 32) (g : Nat) (w : World) (hg : w.heap[g]? = some (.cells #[.int .i64 (c : Int)] 3 (0, 0))) :
    Calls Tryd.prog 25 #[.int .i64 ((s : Int) - 48), .slice (some ⟨g, 0, none⟩) 1 1] w fun e w' => ∃ (v : Value) (p : Int), e = .returned (.tuple #[v, .int .i64 (colMin (reachL c) s), .int .i64 0]) ∧
      (reachL c).find? (fun p => decide (dst ((s : Int) - 48) p = colMin (reachL c) s)) = some p ∧ Kd.R (Kd.int .i64) 3 w' w.heap.size (fun _ => True) v [p] ∧ Below w.heap.size w w' := by
  obtain ⟨hany, hV0, hV1⟩ := col_some c hc s hs
  have hVE := bef_get hc hs
  obtain ⟨at_, hat⟩ : ∃ a, a = (s : Int) - 48 := ⟨_, rfl⟩
  rw [← hat]
  have ha : -48 ≤ at_ ∧ at_ ≤ 48 := by omega
  have HAT := Lib.hid hat
  clear hat
  have hs0 : (0 : Int) ≤ (s : Int) := by omega
  have hs1 : (s : Int) < 97 := by omega
  obtain ⟨hr, hl, hx⟩ := reach_all c hc
  have HG := Lib.hid hg
  have hgl : Hid (g < w.heap.size) := (Array.getElem?_eq_some_iff.1 hg).1
  have hcell : w.cell? ⟨g, 0, none⟩ = some (.int .i64 (c : Int)) := by rw [blk_cell hg 0]; rfl
  have hc0 : (0 : Int) ≤ (c : Int) := by omega
  have hc1 : (c : Int) < 32 := by omega
  clear hg
  have hmk : ∀ w, (Instr.makeSlice 54 (.int .i64 2) (.int .i64 2)).run Tryd.prog w = .ok (.slice (some ⟨w.heap.size, 0, none⟩) 2 2) (w.alloc (.cells #[.pointer none, .pointer none] 55)) := fun _ => by kernel_rfl
  go_enter Tryd.func25, Tryd.ntmps25
  go_wp2_with fail
  go_step3
  go_wp2_with fail
  refine (mount_is.calls at_ true _ (by unfold mount_is.f; rw [if_pos ha.1, decide_eq_true ha.2])).mono ?_
  rintro e w1 ⟨rfl, nd, rfl⟩
  have n0 : ((w.alloc (.cells #[.int .i64 at_] 3)).drewN nd).heap[w.heap.size]? = some (.cells #[.int .i64 at_] 3 (0, 0)) := by
    have h := blk_new w (.cells #[.int .i64 at_] 3 (0, 0)); simpa using h
  have n1 : Below w.heap.size w ((w.alloc (.cells #[.int .i64 at_] 3)).drewN nd) := below_drewN (below_new (Below.refl _ _) _ (Nat.le_refl _)) _
  generalize ((w.alloc (.cells #[.int .i64 at_] 3)).drewN nd) = w2 at *
  go_wp2_with fail
  have hb1 : w.heap.size < w2.heap.size := (Array.getElem?_eq_some_iff.1 n0).1
  have hgw : w2.heap[g]? = some (.cells #[.int .i64 (c : Int)] 3 (0, 0)) := (n1.block g hgl.out).trans HG.out
  have m0 : ((w2.alloc (.cells #[.pointer none, .pointer (some ⟨w2.heap.size + 1, 0, none⟩)] 55)).alloc (.cells Tryd.zeroCells57 57)).heap[w.heap.size]? = some (.cells #[.int .i64 at_] 3 (0, 0)) := by
    exact (Below.heap_alloc _ _ _ (by simp; omega)).trans ((Below.heap_alloc _ _ _ (by omega)).trans n0)
  have m1 : ((w2.alloc (.cells #[.pointer none, .pointer (some ⟨w2.heap.size + 1, 0, none⟩)] 55)).alloc (.cells Tryd.zeroCells57 57)).heap[w2.heap.size]? = some (.cells #[.pointer none, .pointer (some ⟨w2.heap.size + 1, 0, none⟩)] 55 (0, 0)) := by
    exact (Below.heap_alloc _ _ _ (by simp)).trans (blk_new _ _)
  have m2 : IsLen ((w2.alloc (.cells #[.pointer none, .pointer (some ⟨w2.heap.size + 1, 0, none⟩)] 55)).alloc (.cells Tryd.zeroCells57 57)) (w2.heap.size + 1) zeros := by
    refine ⟨rfl, ?_⟩
    rw [zero_len]
    have h := blk_new (w2.alloc (.cells #[.pointer none, .pointer (some ⟨w2.heap.size + 1, 0, none⟩)] 55)) (.cells (tabV zeros) 57 (0, 0))
    simpa using h
  have m3 : ((w2.alloc (.cells #[.pointer none, .pointer (some ⟨w2.heap.size + 1, 0, none⟩)] 55)).alloc (.cells Tryd.zeroCells57 57)).heap[g]? = some (.cells #[.int .i64 (c : Int)] 3 (0, 0)) := by
    have := hgl.out
    exact (Below.heap_alloc _ _ _ (by simp; omega)).trans ((Below.heap_alloc _ _ _ (by omega)).trans hgw)
  have m4 : Below w.heap.size w ((w2.alloc (.cells #[.pointer none, .pointer (some ⟨w2.heap.size + 1, 0, none⟩)] 55)).alloc (.cells Tryd.zeroCells57 57)) := by
    exact below_new (below_new n1 _ (by omega)) _ (by first | (simp; done) | (simp; omega))
  have m5 : ((w2.alloc (.cells #[.pointer none, .pointer (some ⟨w2.heap.size + 1, 0, none⟩)] 55)).alloc (.cells Tryd.zeroCells57 57)).heap.size = w2.heap.size + 2 := by simp
  clear n0 n1 hgw hcell
  generalize ((w2.alloc (.cells #[.pointer none, .pointer (some ⟨w2.heap.size + 1, 0, none⟩)] 55)).alloc (.cells Tryd.zeroCells57 57)) = w3 at *
  generalize w2.heap.size = b1 at *
  have hcell : w3.cell? ⟨g, 0, none⟩ = some (.int .i64 (c : Int)) := by rw [blk_cell m3 0]; rfl
  have M0 := Lib.hid m0
  have M1 := Lib.hid m1
  have M2 := Lib.hid m2
  have M3 := Lib.hid m3
  have M4 := Lib.hid m4
  have M5 := Lib.hid m5
  clear m0 m1 m2 m3 m4 m5
  refine wp_loop_rounds 2 ?_
  rw [rounds_succ]
  go_wp2_with fail
  refine (mount_column.calls (c : Int) true _ (by unfold mount_column.f; rw [if_pos hc0, decide_eq_true hc1])).mono ?_
  rintro e w4 ⟨rfl, nd4, rfl⟩
  have q0 : (w3.drewN nd4).heap[w.heap.size]? = some (.cells #[.int .i64 at_] 3 (0, 0)) := by rw [hp_drew]; exact M0.out
  have q1 : (w3.drewN nd4).heap[b1]? = some (.cells #[.pointer none, .pointer (some ⟨b1 + 1, 0, none⟩)] 55 (0, 0)) := by rw [hp_drew]; exact M1.out
  have q2 : IsLen (w3.drewN nd4) (b1 + 1) zeros := ⟨rfl, by rw [hp_drew]; exact M2.out.2⟩
  have q3 : (w3.drewN nd4).heap[g]? = some (.cells #[.int .i64 (c : Int)] 3 (0, 0)) := by rw [hp_drew]; exact M3.out
  have q4 : Below w.heap.size w (w3.drewN nd4) := below_drewN M4.out _
  have q5 : (w3.drewN nd4).heap.size = b1 + 2 := by rw [hp_drew]; exact M5.out
  clear M0 M1 M2 M3 M4 M5 hcell
  generalize w3.drewN nd4 = w4 at *
  have hcell : w4.cell? ⟨g, 0, none⟩ = some (.int .i64 (c : Int)) := by rw [blk_cell q3 0]; rfl
  have hcl1 : w4.cell? ⟨b1, 1, none⟩ = some (.pointer (some ⟨b1 + 1, 0, none⟩)) := by rw [blk_cell q1 1]; rfl
  have hbl : b1 < w4.heap.size := by omega
  have Q0 := Lib.hid q0
  have Q1 := Lib.hid q1
  have Q2 := Lib.hid q2
  have Q3 := Lib.hid q3
  have Q4 := Lib.hid q4
  have Q5 := Lib.hid q5
  clear q0 q1 q2 q3 q4 q5
  go_wp2_with fail
  go_region_with (go_at_call 33; refine (before_calls _ _ 6 hr hx hl _ _ ?_).mono ?_; (first | exact Q2.out | exact Q2.out.drew | exact Q2.out.drewN' _); rintro e w5 ⟨B, rfl, hB, hL, h5⟩; have h5' : Below w4.heap.size w4 w5 := (by first | exact h5 | exact (below_drew1 (Below.refl _ _)).trans h5 | exact (below_drewN (Below.refl _ _) _).trans h5); have hB' : w4.heap.size ≤ B := (by first | exact hB | simpa using hB); clear h5 hB; have hx5 : w5.heap[b1]? = some (.cells #[.pointer none, .pointer (some ⟨b1 + 1, 0, none⟩)] 55 (0, 0)) := (h5'.block b1 hbl).trans Q1.out; have hs5 : w5.cell? ⟨b1, 0, none⟩ = some (.pointer none) := (blk_cell hx5 0).trans rfl; have hf5 : w5.frozen? ⟨b1, 0, none⟩ = false := blk_frozen hx5 0)
  all_goals (
    have hne : w.heap.size ≠ b1 := by omega
    have hgl' := hgl.out
    have hsz := Q5.out
    have q0 : (w5.setCell ⟨b1, 0, none⟩ (.pointer (some ⟨B, 0, none⟩))).heap[w.heap.size]? = some (.cells #[.int .i64 at_] 3 (0, 0)) :=
      (Below.heap_setCell w5 ⟨b1, 0, none⟩ _ _ hne).trans ((h5'.block _ (by omega)).trans Q0.out)
    have q1 : (w5.setCell ⟨b1, 0, none⟩ (.pointer (some ⟨B, 0, none⟩))).heap[b1]? = some (.cells #[.pointer (some ⟨B, 0, none⟩), .pointer (some ⟨b1 + 1, 0, none⟩)] 55 (0, 0)) :=
      blk_put hx5 0 _ rfl
    have q2 : IsLen (w5.setCell ⟨b1, 0, none⟩ (.pointer (some ⟨B, 0, none⟩))) (b1 + 1) zeros :=
      ⟨rfl, (Below.heap_setCell w5 ⟨b1, 0, none⟩ _ _ (show b1 + 1 ≠ b1 by omega)).trans ((h5'.block _ (by omega)).trans Q2.out.2)⟩
    have q3 : IsLen (w5.setCell ⟨b1, 0, none⟩ (.pointer (some ⟨B, 0, none⟩))) B (bef (reachL (c : Int)) 97) :=
      ⟨hL.1, (Below.heap_setCell w5 ⟨b1, 0, none⟩ _ _ (show B ≠ b1 by omega)).trans hL.2⟩
    have q4 : (w5.setCell ⟨b1, 0, none⟩ (.pointer (some ⟨B, 0, none⟩))).heap[g]? = some (.cells #[.int .i64 (c : Int)] 3 (0, 0)) :=
      (Below.heap_setCell w5 ⟨b1, 0, none⟩ _ _ (show g ≠ b1 by omega)).trans ((h5'.block _ (by omega)).trans Q3.out)
    have q5 : Below w.heap.size w (w5.setCell ⟨b1, 0, none⟩ (.pointer (some ⟨B, 0, none⟩))) :=
      (Q4.out.trans (h5'.mono (by omega))).setCell (p := ⟨b1, 0, none⟩) (by show w.heap.size ≤ b1; omega) _
    clear Q0 Q1 Q2 Q3 Q4 Q5 hx5 hs5 hf5 h5' hL hcell hcl1
    generalize w5.setCell ⟨b1, 0, none⟩ (.pointer (some ⟨B, 0, none⟩)) = w6 at *
    have hcell : w6.cell? ⟨g, 0, none⟩ = some (.int .i64 (c : Int)) := by rw [blk_cell q4 0]; rfl
    have hcl0 : w6.cell? ⟨b1, 0, none⟩ = some (.pointer (some ⟨B, 0, none⟩)) := by rw [blk_cell q1 0]; rfl
    have hcl1 : w6.cell? ⟨b1, 1, none⟩ = some (.pointer (some ⟨b1 + 1, 0, none⟩)) := by rw [blk_cell q1 1]; rfl
    have hca : w6.cell? ⟨w.heap.size, 0, none⟩ = some (.int .i64 at_) := by rw [blk_cell q0 0]; rfl
    have hat := HAT.out
    subst hat
    clear HAT
    obtain ⟨hcb, _⟩ := q3.cell (i := s) (by omega)
    rw [hVE] at hcb
    have Q0 := Lib.hid q0
    have Q1 := Lib.hid q1
    have Q2 := Lib.hid q2
    have Q3 := Lib.hid q3
    have Q4 := Lib.hid q4
    have Q5 := Lib.hid q5
    clear q0 q1 q2 q3 q4 q5
    go_wp2_with fail
    rw [rounds_succ]
    go_wp2_with fail
    go_quiet (fail)
    go_wp2_with fail
    have z0 : w.heap.size < w6.heap.size := (Array.getElem?_eq_some_iff.1 Q0.out).1
    have z1 : b1 < w6.heap.size := (Array.getElem?_eq_some_iff.1 Q1.out).1
    have z2 : b1 + 1 < w6.heap.size := (Array.getElem?_eq_some_iff.1 Q2.out.2).1
    have z3 : B < w6.heap.size := (Array.getElem?_eq_some_iff.1 Q3.out.2).1
    have z4 : g < w6.heap.size := (Array.getElem?_eq_some_iff.1 Q4.out).1
    have hal : ∀ k, k < w6.heap.size → ((w6.drewN nq).alloc (.cells #[.slice none 0 0] 46)).heap[k]? = w6.heap[k]? := fun k hk => by
      rw [Below.heap_alloc _ _ _ (by rw [hp_drew]; exact hk), hp_drew]
    have p0 := (hal _ z0).trans Q0.out
    have p1 := (hal _ z1).trans Q1.out
    have p2 : IsLen _ (b1 + 1) zeros := ⟨rfl, (hal _ z2).trans Q2.out.2⟩
    have p3 : IsLen _ B (bef (reachL (c : Int)) 97) := ⟨Q3.out.1, (hal _ z3).trans Q3.out.2⟩
    have p4 := (hal _ z4).trans Q4.out
    have p5 : Below w.heap.size w ((w6.drewN nq).alloc (.cells #[.slice none 0 0] 46)) := below_new (below_drewN Q5.out _) _ (Nat.le_refl _)
    have p6 : ((w6.drewN nq).alloc (.cells #[.slice none 0 0] 46)).heap[w6.heap.size]? = some (.cells #[.slice none 0 0] 46 (0, 0)) := by
      have h := blk_new (w6.drewN nq) (.cells #[.slice none 0 0] 46 (0, 0))
      rw [hp_drew] at h
      exact h
    clear hal Q0 Q1 Q2 Q3 Q4 Q5 hcell hcl0 hcl1 hca hcb
    generalize (w6.drewN nq).alloc (.cells #[.slice none 0 0] 46) = w7 at *
    generalize w6.heap.size = bo at *
    have hcell : w7.cell? ⟨g, 0, none⟩ = some (.int .i64 (c : Int)) := by rw [blk_cell p4 0]; rfl
    have P0 := Lib.hid p0
    have P1 := Lib.hid p1
    have P2 := Lib.hid p2
    have P3 := Lib.hid p3
    have P5 := Lib.hid p5
    have P6 := Lib.hid p6
    clear p0 p1 p2 p3 p4 p5 p6
    go_step3
    go_wp2_with fail
    refine wp_loop_rounds 2 ?_
    rw [rounds_succ]
    go_wp2_with fail
    refine (mount_Reach.calls 6 (c : Int) (reachL (c : Int)) 0 _ hr).mono ?_
    rintro e w8 ⟨v, rfl, hv, h8⟩
    obtain ⟨A, cp, rfl⟩ := Kd.R_slice hv
    have y6 : bo < w7.heap.size := (Array.getElem?_eq_some_iff.1 P6.out).1
    have p0 := (h8.block _ (Nat.lt_trans z0 y6)).trans P0.out
    have p1 := (h8.block _ (Nat.lt_trans z1 y6)).trans P1.out
    have p2 : IsLen w8 (b1 + 1) zeros := ⟨rfl, (h8.block _ (Nat.lt_trans z2 y6)).trans P2.out.2⟩
    have p3 : IsLen w8 B (bef (reachL (c : Int)) 97) := ⟨P3.out.1, (h8.block _ (Nat.lt_trans z3 y6)).trans P3.out.2⟩
    have p6 := (h8.block _ y6).trans P6.out
    have p5 : Below w.heap.size w w8 := P5.out.trans (h8.mono (Nat.le_of_lt (Nat.lt_trans z0 y6)))
    have hca : w8.cell? ⟨w.heap.size, 0, none⟩ = some (.int .i64 ((s : Int) - 48)) := by rw [blk_cell p0 0]; rfl
    have hcl0 : w8.cell? ⟨b1, 0, none⟩ = some (.pointer (some ⟨B, 0, none⟩)) := by rw [blk_cell p1 0]; rfl
    have hcl1 : w8.cell? ⟨b1, 1, none⟩ = some (.pointer (some ⟨b1 + 1, 0, none⟩)) := by rw [blk_cell p1 1]; rfl
    obtain ⟨hcb, _⟩ := p3.cell (i := s) (by omega)
    rw [hVE] at hcb
    have P0 := Lib.hid p0
    have P2 := Lib.hid p2
    have P5 := Lib.hid p5
    have P6 := Lib.hid p6
    have HV := Lib.hid hv
    have HX := Lib.hid hx
    have HA := Lib.hid hany
    have Z0 := Lib.hid z0
    clear P1 P3 p0 p1 p2 p3 p5 p6 h8 hv hx hcell hany z1 z2 z3 z4 y6 hgl HG hVE
    go_wp2_with fail
    go_loopw [85] (fun v wr => ∃ j : Nat, j ≤ (reachL (c : Int)).length ∧ v = .int .i64 j ∧ Hid (∀ k, k < j → decide (dst ((s : Int) - 48) (rd (reachL (c : Int)) (k : Int)) = colMin (reachL (c : Int)) s) = false) ∧ ∃ n, wr = w8.drewN n) (fun v _ => (reachL (c : Int)).length - (intOf v).toNat)
    case atStart => exact ⟨0, Nat.zero_le _, rfl, (fun k hk => absurd hk (Nat.not_lt_zero k)), 0, rfl⟩
    case round =>
      obtain ⟨j, hj, rfl, HN, n, rfl⟩ := hrel
      by_cases hjl : j < (reachL (c : Int)).length
      · have k1 : (0 : Int) ≤ (j : Int) := by omega
        have k2 : (j : Int) < ((reachL (c : Int)).length : Int) := by omega
        obtain ⟨ad, e1, hx1⟩ := Kd.at_int (Kd.R_reads' HV.out).2.2 (j : Int) k1 k2
        cases e1
        rw [Int.toNat_natCast] at hx1
        have hp := HX.out (rd (reachL (c : Int)) (j : Int)) (rd_mem hjl)
        obtain ⟨p, hpE⟩ : ∃ p, rd (reachL (c : Int)) (j : Int) = p := ⟨_, rfl⟩
        rw [hpE] at hx1 hp
        obtain ⟨q, hq⟩ : ∃ q : Nat, p = (q : Int) - 48 := ⟨(p + 48).toNat, by omega⟩
        subst hq
        have HPE := Lib.hid hpE
        clear hpE
        have hq0 : (0 : Int) ≤ (q : Int) := by omega
        have hq1 : (q : Int) < 97 := by omega
        obtain ⟨hc4, _⟩ := P2.out.cell (i := q) (by omega)
        rw [zeros_get q (by omega)] at hc4
        have hd0 : 0 ≤ dst ((s : Int) - 48) ((q : Int) - 48) ∧ dst ((s : Int) - 48) ((q : Int) - 48) ≤ 1000 := by unfold dst; omega
        have hA' : -1000 ≤ (s : Int) - 48 ∧ (s : Int) - 48 ≤ 1000 := by omega
        have hB' : -1000 ≤ (q : Int) - 48 ∧ (q : Int) - 48 ≤ 1000 := by omega
        by_cases hm : dst ((s : Int) - 48) ((q : Int) - 48) = colMin (reachL (c : Int)) s
        · have hm1 : (dst ((s : Int) - 48) ((q : Int) - 48) == colMin (reachL (c : Int)) s) = true := beq_iff_eq.2 hm
          have HM := Lib.hid hm
          clear hm
          go_wp2_with fail
          go_quiet ((go_at_call 36; first | exact Calls.quiet_of_same (dist_small _ _ _ hA' hB') | exact quiet_same2 (dist_small _ _ _ hA' hB')))
          go_wp2_with fail
          refine (step_calls w.heap.size bo w.heap.size ((q : Int) - 48) ((s : Int) - 48) _ (by rw [hp_drew]; exact P6.out) (by rw [hp_drew]; exact P0.out) (by have := Z0.out; omega) (Nat.le_of_lt Z0.out) (Nat.le_refl _)).mono ?_
          rintro e w9 ⟨rfl, v9, hx9, hv9, hb9⟩
          have hc9 : w9.cell? ⟨bo, 0, none⟩ = some v9 := by rw [blk_cell hx9 0]; rfl
          obtain ⟨A9, c9, rfl⟩ := Kd.R_slice hv9
          have HV9 := Lib.hid hv9
          have HB9 := Lib.hid ((below_drewN P5.out (n + nq)).trans hb9)
          clear hv9 hb9 hx9
          go_wp2_with fail
          rw [rounds_succ]
          go_wp2_with fail
          rw [Exit.noGoto_ret]
          go_ret3
          have h := find_at (P := fun p => decide (dst ((s : Int) - 48) p = colMin (reachL (c : Int)) s)) (j := j) HN.out hjl (by rw [HPE.out]; exact decide_eq_true HM.out)
          rw [HPE.out] at h
          exact ⟨_, _, rfl, h, Kd.R_mono HV9.out (fun _ _ => trivial), HB9.out⟩
        · have hm1 : (dst ((s : Int) - 48) ((q : Int) - 48) == colMin (reachL (c : Int)) s) = false := beq_eq_false_iff_ne.2 hm
          have HM := Lib.hid hm
          clear hm
          go_wp2_with fail
          go_quiet ((go_at_call 36; first | exact Calls.quiet_of_same (dist_small _ _ _ hA' hB') | exact quiet_same2 (dist_small _ _ _ hA' hB')))
          go_wp2_with fail
          refine ⟨⟨j + 1, by omega, rfl, ?_, _, rfl⟩, by simp [intOf]; omega⟩
          intro k hk
          by_cases hkj : k < j
          · exact HN.out k hkj
          · obtain rfl : k = j := by omega
            rw [HPE.out]
            exact decide_eq_false HM.out
      · exfalso
        have hjE : j = (reachL (c : Int)).length := by omega
        subst hjE
        have := any_at (P := fun p => decide (dst ((s : Int) - 48) p = colMin (reachL (c : Int)) s)) HN.out
        rw [HA.out] at this
        exact absurd this (by decide))
set_option maxHeartbeats 4000000 in
set_option maxRecDepth 1000000 in
theorem plan_bad2 (at_ c : Int) (ha : -48 ≤ at_ ∧ at_ ≤ 48) (hc : ¬ (0 ≤ c ∧ c < 32)) (g : Nat) (w : World) (hg : w.heap[g]? = some (.cells #[.int .i64 c] 3 (0, 0))) :
    Calls Tryd.prog 25 #[.int .i64 at_, .slice (some ⟨g, 0, none⟩) 1 1] w fun e w' => e = .returned (.tuple #[.slice none 0 0, .int .i64 0, .int .i64 1]) ∧ Below w.heap.size w w' := by
  have HG := Lib.hid hg
  have hgl : Hid (g < w.heap.size) := (Array.getElem?_eq_some_iff.1 hg).1
  have hcell : w.cell? ⟨g, 0, none⟩ = some (.int .i64 c) := by rw [blk_cell hg 0]; rfl
  clear hg
  have hmk : ∀ w, (Instr.makeSlice 54 (.int .i64 2) (.int .i64 2)).run Tryd.prog w = .ok (.slice (some ⟨w.heap.size, 0, none⟩) 2 2) (w.alloc (.cells #[.pointer none, .pointer none] 55)) := fun _ => by kernel_rfl
  go_enter Tryd.func25, Tryd.ntmps25
  go_wp2_with fail
  go_step3
  go_wp2_with fail
  refine (mount_is.calls at_ true _ (by unfold mount_is.f; rw [if_pos ha.1, decide_eq_true ha.2])).mono ?_
  rintro e w1 ⟨rfl, nd, rfl⟩
  have n0 : ((w.alloc (.cells #[.int .i64 at_] 3)).drewN nd).heap[w.heap.size]? = some (.cells #[.int .i64 at_] 3 (0, 0)) := by
    have h := blk_new w (.cells #[.int .i64 at_] 3 (0, 0)); simpa using h
  have n1 : Below w.heap.size w ((w.alloc (.cells #[.int .i64 at_] 3)).drewN nd) := below_drewN (below_new (Below.refl _ _) _ (Nat.le_refl _)) _
  generalize ((w.alloc (.cells #[.int .i64 at_] 3)).drewN nd) = w2 at *
  go_wp2_with fail
  have hb1 : w.heap.size < w2.heap.size := (Array.getElem?_eq_some_iff.1 n0).1
  have hgw : w2.heap[g]? = some (.cells #[.int .i64 c] 3 (0, 0)) := (n1.block g hgl.out).trans HG.out
  have m0 : ((w2.alloc (.cells #[.pointer none, .pointer (some ⟨w2.heap.size + 1, 0, none⟩)] 55)).alloc (.cells Tryd.zeroCells57 57)).heap[w.heap.size]? = some (.cells #[.int .i64 at_] 3 (0, 0)) := by
    exact (Below.heap_alloc _ _ _ (by simp; omega)).trans ((Below.heap_alloc _ _ _ (by omega)).trans n0)
  have m1 : ((w2.alloc (.cells #[.pointer none, .pointer (some ⟨w2.heap.size + 1, 0, none⟩)] 55)).alloc (.cells Tryd.zeroCells57 57)).heap[w2.heap.size]? = some (.cells #[.pointer none, .pointer (some ⟨w2.heap.size + 1, 0, none⟩)] 55 (0, 0)) := by
    exact (Below.heap_alloc _ _ _ (by simp)).trans (blk_new _ _)
  have m2 : IsLen ((w2.alloc (.cells #[.pointer none, .pointer (some ⟨w2.heap.size + 1, 0, none⟩)] 55)).alloc (.cells Tryd.zeroCells57 57)) (w2.heap.size + 1) zeros := by
    refine ⟨rfl, ?_⟩
    rw [zero_len]
    have h := blk_new (w2.alloc (.cells #[.pointer none, .pointer (some ⟨w2.heap.size + 1, 0, none⟩)] 55)) (.cells (tabV zeros) 57 (0, 0))
    simpa using h
  have m3 : ((w2.alloc (.cells #[.pointer none, .pointer (some ⟨w2.heap.size + 1, 0, none⟩)] 55)).alloc (.cells Tryd.zeroCells57 57)).heap[g]? = some (.cells #[.int .i64 c] 3 (0, 0)) := by
    have := hgl.out
    exact (Below.heap_alloc _ _ _ (by simp; omega)).trans ((Below.heap_alloc _ _ _ (by omega)).trans hgw)
  have m4 : Below w.heap.size w ((w2.alloc (.cells #[.pointer none, .pointer (some ⟨w2.heap.size + 1, 0, none⟩)] 55)).alloc (.cells Tryd.zeroCells57 57)) := by
    exact below_new (below_new n1 _ (by omega)) _ (by first | (simp; done) | (simp; omega))
  have m5 : ((w2.alloc (.cells #[.pointer none, .pointer (some ⟨w2.heap.size + 1, 0, none⟩)] 55)).alloc (.cells Tryd.zeroCells57 57)).heap.size = w2.heap.size + 2 := by simp
  clear n0 n1 hgw hcell
  generalize ((w2.alloc (.cells #[.pointer none, .pointer (some ⟨w2.heap.size + 1, 0, none⟩)] 55)).alloc (.cells Tryd.zeroCells57 57)) = w3 at *
  generalize w2.heap.size = b1 at *
  have hcell : w3.cell? ⟨g, 0, none⟩ = some (.int .i64 c) := by rw [blk_cell m3 0]; rfl
  have M0 := Lib.hid m0
  have M1 := Lib.hid m1
  have M2 := Lib.hid m2
  have M3 := Lib.hid m3
  have M4 := Lib.hid m4
  have M5 := Lib.hid m5
  clear m0 m1 m2 m3 m4 m5
  refine wp_loop_rounds 2 ?_
  rw [rounds_succ]
  go_wp2_with fail
  have HCn := Lib.hid hc
  refine (mount_column.calls c false _ (by
    unfold mount_column.f
    by_cases h0 : c ≥ 0
    · rw [if_pos h0, decide_eq_false (by omega)]
    · rw [if_neg h0])).mono ?_
  rintro e w4 ⟨rfl, nd4, rfl⟩
  go_wp2_with fail
  all_goals (try simp only [Exit.inBlock, Exit.then])
  rw [Exit.noGoto_ret]
  go_ret3
  exact ⟨rfl, below_drewN M4.out _⟩
set_option maxHeartbeats 4000000 in
set_option maxRecDepth 1000000 in
theorem plan_bad1 (at_ c : Int) (ha : ¬ (-48 ≤ at_ ∧ at_ ≤ 48)) (g : Nat) (w : World) :
    Calls Tryd.prog 25 #[.int .i64 at_, .slice (some ⟨g, 0, none⟩) 1 1] w fun e w' => e = .returned (.tuple #[.slice none 0 0, .int .i64 0, .int .i64 1]) ∧ Below w.heap.size w w' := by
  have HAn := Lib.hid ha
  clear ha
  go_enter Tryd.func25, Tryd.ntmps25
  go_wp2_with fail
  go_step3
  go_wp2_with fail
  refine (mount_is.calls at_ false _ (by
    have h := HAn.out
    unfold mount_is.f
    by_cases h0 : at_ ≥ -48
    · rw [if_pos h0, decide_eq_false (by omega)]
    · rw [if_neg h0])).mono ?_
  rintro e w1 ⟨rfl, nd, rfl⟩
  go_wp2_with fail
  all_goals (try simp only [Exit.inBlock, Exit.then])
  rw [Exit.noGoto_ret]
  go_ret3
  exact ⟨rfl, below_drewN (below_new (Below.refl _ _) _ (Nat.le_refl _)) _⟩
end Go.Proofs.YtfklhpdnbbefbaaDoor.Rg
