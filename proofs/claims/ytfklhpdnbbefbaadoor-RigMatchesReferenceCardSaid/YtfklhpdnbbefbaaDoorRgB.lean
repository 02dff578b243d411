/-
  The lengths of ways that go through a column first: mount.before, with nothing behind it.
-/
import Derived.Test.YtfklhpdnbbefbaaDoorPmx1
import Derived.Test.YtfklhpdnbbefbaaDoorLxC
import Derived.Deep.RegionHeld3
namespace Go.Proofs.YtfklhpdnbbefbaaDoor.Rg
open Go.RowKit Go.Proofs.YtfklhpdnbbefbaaDoorW.PrintWords Go.Proofs.YtfklhpdnbbefbaaDoor.Lx Go.Proofs.YtfklhpdnbbefbaaDoor.Pm
set_option linter.unusedVariables false
set_option linter.unusedSimpArgs false
abbrev tL := 57
def zeros : List Int := List.replicate 97 0
def IsLen (w : World) (B : Nat) (m : List Int) : Prop := m.length = 97 ∧ w.heap[B]? = some (.cells (tabV m) 57 (0, 0))
def dst (a b : Int) : Int := max (a - b) (b - a)
def stepP (i : Nat) (m : List Int) (p : Int) : List Int := m.set i (min (m.getD i 0) (dst ((i : Int) - 48) p))
def rowP (xs : List Int) (m : List Int) (i : Nat) : List Int := xs.foldl (stepP i) (m.set i 1073741824)
def bef (xs : List Int) (n : Nat) : List Int := (List.range n).foldl (rowP xs) zeros
theorem zero_len : Tryd.zeroCells57 = tabV zeros := by kernel_rfl
theorem IsLen.set {w : World} {B : Nat} {m : List Int} (h : IsLen w B m) (i : Nat) (c : Int) : IsLen (w.setCell ⟨B, i, none⟩ (.int .i64 c)) B (m.set i c) := by
  refine ⟨by rw [List.length_set]; exact h.1, blk_put h.2 _ _ ?_⟩
  unfold tabV
  rw [List.map_set]
  simp
theorem IsLen.cell {w : World} {B : Nat} {m : List Int} (h : IsLen w B m) {i : Nat} (hi : i < 97) : w.cell? ⟨B, i, none⟩ = some (.int .i64 (m.getD i 0)) ∧ w.frozen? ⟨B, i, none⟩ = false := by
  refine ⟨?_, blk_frozen h.2 _⟩
  rw [blk_cell h.2 i]
  unfold tabV
  rw [List.getElem?_toArray, List.getElem?_map, List.getD_eq_getElem?_getD, List.getElem?_eq_getElem (by rw [h.1]; exact hi)]
  rfl
theorem IsLen.below {w w1 : World} {B : Nat} {m : List Int} (h : IsLen w B m) (hb : Below w.heap.size w w1) : IsLen w1 B m :=
  ⟨h.1, (hb.block B (Array.getElem?_eq_some_iff.1 h.2).1).trans h.2⟩
theorem IsLen.drew {w : World} {B : Nat} {m : List Int} (h : IsLen w B m) : IsLen w.drew B m := ⟨h.1, h.2⟩
theorem bef_succ (xs : List Int) (n : Nat) : bef xs (n + 1) = rowP xs (bef xs n) n := by
  unfold bef; rw [List.range_succ, List.foldl_append]; rfl
theorem zeros_get : ∀ q, q < 97 → zeros.getD q 0 = 0 := by decide +kernel
theorem rd_mem {xs : List Int} {j : Nat} (h : j < xs.length) : rd xs (j : Int) ∈ xs := by
  unfold rd
  rw [Int.toNat_natCast, List.getD_eq_getElem?_getD, List.getElem?_eq_getElem h]
  exact List.getElem_mem h
theorem dist_quiet (a b : Int) (w : World) : Calls Tryd.prog 36 #[.int .i64 a, .int .i64 b] w fun e w' => e = .returned (.int .i64 (max (wrap64 (a - b)) (wrap64 (b - a)))) ∧ w' = w := by
  go_enter Tryd.func36, Tryd.ntmps36
  go_wp2
  go_ret
  exact ⟨rfl, rfl⟩
theorem dist_small (a b : Int) (w : World) (ha : -1000 ≤ a ∧ a ≤ 1000) (hb : -1000 ≤ b ∧ b ≤ 1000) : Calls Tryd.prog 36 #[.int .i64 a, .int .i64 b] w fun e w' => e = .returned (.int .i64 (dst a b)) ∧ w' = w := by
  have h1 : wrap64 (a - b) = a - b := by unfold wrap64; omega
  have h2 : wrap64 (b - a) = b - a := by unfold wrap64; omega
  have := dist_quiet a b w
  rw [h1, h2] at this
  exact this
theorem wrap_iq {i : Nat} (h : i < 97) : IntKind.i64.wrap ((i : Int) - 48) = (i : Int) - 48 := by
  rw [Go.Proofs.YtfklhpdnbbefbaaDoorW.PrintLast.i64_w]; unfold wrap64; omega
theorem wrap_iq2 {q : Nat} (h : q < 97) : IntKind.i64.wrap ((q : Int) - 48 + 48) = (q : Int) := by
  rw [Go.Proofs.YtfklhpdnbbefbaaDoorW.PrintLast.i64_w]; unfold wrap64; omega
theorem wrap_iq3 {q : Nat} (h : q < 97) : IntKind.i64.wrap (q : Int) = (q : Int) := by
  rw [Go.Proofs.YtfklhpdnbbefbaaDoorW.PrintLast.i64_w]; unfold wrap64; omega
theorem take_fold {β : Type} (f : β → Int → β) (b : β) (xs : List Int) (j : Nat) (h : j < xs.length) : (xs.take (j + 1)).foldl f b = f ((xs.take j).foldl f b) (rd xs (j : Int)) := by
  rw [List.take_succ_eq_append_getElem h, List.foldl_append]
  unfold rd
  rw [Int.toNat_natCast, List.getD_eq_getElem?_getD, List.getElem?_eq_getElem h]; rfl
set_option maxHeartbeats 4000000 in
set_option maxRecDepth 1000000 in
theorem before_calls (c : Int) (xs : List Int) (K : Nat) (hr : mount_Reach.f K c = some (xs, 0)) (hxs : ∀ x ∈ xs, -48 ≤ x ∧ x ≤ 48) (hl : xs.length ≤ 10) (b : Nat) (w : World) (hb : IsLen w b zeros) :
    Calls Tryd.prog 33 #[.int .i64 c, .pointer (some ⟨b, 0, none⟩)] w fun e w' => ∃ B, e = .returned (.pointer (some ⟨B, 0, none⟩)) ∧ w.heap.size ≤ B ∧ IsLen w' B (bef xs 97) ∧ Below w.heap.size w w' := by
  have HB := Lib.hid hb
  clear hb
  go_enter Tryd.func33, Tryd.ntmps33
  go_wp2_with fail
  refine (mount_Reach.calls K c xs 0 _ hr).mono ?_
  rintro e w2 ⟨v, rfl, hv, h2⟩
  have n0 : IsLen w2 w.heap.size zeros := by
    refine ⟨rfl, (h2.block w.heap.size (by simp)).trans ?_⟩
    rw [zero_len]; exact blk_new _ _
  have n1 : Below w.heap.size w w2 := (below_new (Below.refl _ _) _ (Nat.le_refl _)).trans (h2.mono (by simp))
  have n2 : Kd.R (Kd.int .i64) 3 w2 (w.heap.size + 1) (fun k => k ≠ w.heap.size) v xs := by
    refine Kd.R_mono (Kd.R_bound (Kd.R_lower hv (by simp))) (fun k hk => ?_)
    have := hk.2.1
    omega
  obtain ⟨A, cp, rfl⟩ := Kd.R_slice n2
  have HL := Lib.hid n0
  have HW := Lib.hid n1
  have HR := Lib.hid n2
  have HBb : Hid (b < w.heap.size) := (Array.getElem?_eq_some_iff.1 HB.out.2).1
  clear n0 n1 n2 hv h2
  go_wp2_with fail
  go_loopw [16] (fun v wr => ∃ i : Nat, i ≤ 97 ∧ v = .int .i64 i ∧ Hid (IsLen wr w.heap.size (bef xs i)) ∧ Hid (Kd.R (Kd.int .i64) 3 wr (w.heap.size + 1) (fun k => k ≠ w.heap.size) (.slice A xs.length cp) xs) ∧ Hid (Below w.heap.size w wr)) (fun v _ => 97 - (intOf v).toNat)
  case atStart => exact ⟨0, Nat.zero_le _, rfl, HL, HR, HW⟩
  case round =>
    obtain ⟨i, hi, rfl, HL1, HR1, HW1⟩ := hrel
    clear HL HR HW
    by_cases hlt : i < 97
    · obtain ⟨hc1, hf1⟩ := HL1.out.cell hlt
      go_wp2_with fail
      have HL2 := Lib.hid (HL1.out.set i 1073741824)
      have HR2 := Lib.hid (Kd.R_far (p := ⟨w.heap.size, i, none⟩) HR1.out (fun _ hk => hk) (.int .i64 1073741824))
      have HW2 := Lib.hid (HW1.out.setCell (p := ⟨w.heap.size, i, none⟩) (Nat.le_refl _) (.int .i64 1073741824))
      clear HL1 HR1 HW1 hc1 hf1
      rw [show decide ((i : Int) < 97) = true from decide_eq_true (by omega)]
      go_loopw [23] (fun v wr => ∃ j : Nat, j ≤ xs.length ∧ v = .int .i64 j ∧ Hid (IsLen wr w.heap.size ((xs.take j).foldl (stepP i) ((bef xs i).set i 1073741824))) ∧ Hid (Kd.R (Kd.int .i64) 3 wr (w.heap.size + 1) (fun k => k ≠ w.heap.size) (.slice A xs.length cp) xs) ∧ Hid (Below w.heap.size w wr)) (fun v _ => xs.length - (intOf v).toNat)
      case atStart => exact ⟨0, Nat.zero_le _, rfl, HL2, HR2, HW2⟩
      case round =>
        obtain ⟨j, hj, rfl, HL3, HR3, HW3⟩ := hrel
        clear HL2 HR2 HW2
        by_cases hjl : j < xs.length
        · have p1 : (0 : Int) ≤ (j : Int) := by omega
          have q1 : (j : Int) < (xs.length : Int) := by omega
          obtain ⟨ad, e1, hx1⟩ := Kd.at_int (Kd.R_reads' HR3.out).2.2 (j : Int) p1 q1
          cases e1
          rw [Int.toNat_natCast] at hx1
          obtain ⟨hc3, hf3⟩ := HL3.out.cell hlt
          have hp := hxs (rd xs (j : Int)) (rd_mem hjl)
          have hfold := take_fold (stepP i) ((bef xs i).set i 1073741824) xs j hjl
          have HF := Lib.hid hfold
          clear hfold
          generalize rd xs (j : Int) = p at *
          obtain ⟨q, rfl⟩ : ∃ q : Nat, p = (q : Int) - 48 := ⟨(p + 48).toNat, by omega⟩
          have hq0 : (0 : Int) ≤ (q : Int) := by omega
          have hq1 : (q : Int) < 97 := by omega
          have hz : IsLen wr b zeros := by
            refine ⟨rfl, (HW3.out.block b HBb).trans HB.out.2⟩
          obtain ⟨hc4, hf4⟩ := hz.cell (i := q) (by omega)
          have hz0 : zeros.getD q 0 = 0 := zeros_get q (by omega)
          rw [hz0] at hc4
          clear hz hz0
          generalize hM : (xs.take j).foldl (stepP i) ((bef xs i).set i 1073741824) = M at *
          have hd0 : 0 ≤ dst ((i : Int) - 48) ((q : Int) - 48) ∧ dst ((i : Int) - 48) ((q : Int) - 48) ≤ 1000 := by unfold dst; omega
          have hdE := Lib.hid (rfl : dst ((i : Int) - 48) ((q : Int) - 48) = dst ((i : Int) - 48) ((q : Int) - 48))
          have hA : -1000 ≤ (i : Int) - 48 ∧ (i : Int) - 48 ≤ 1000 := by omega
          have hB : -1000 ≤ (q : Int) - 48 ∧ (q : Int) - 48 ≤ 1000 := by omega
          go_wp2_with fail
          have hw1 := wrap_iq hlt
          have hw2 := wrap_iq2 (Int.ofNat_lt.1 hq1)
          have hw3 := wrap_iq3 (Int.ofNat_lt.1 hq1)
          go_region_with (go_at_call 36; refine (dist_small _ _ _ hA hB).mono ?_; rintro e w' ⟨rfl, rfl⟩)
          all_goals go_wp2
          all_goals refine ⟨⟨j + 1, by omega, rfl, ?_, ?_, ?_⟩, by simp [intOf]; omega⟩
          all_goals first
            | exact Kd.R_drew (Kd.R_far (p := ⟨w.heap.size, i, none⟩) HR3.out (fun _ hk => hk) _)
            | exact below_drew1 (HW3.out.setCell (p := ⟨w.heap.size, i, none⟩) (Nat.le_refl _) _)
            | (have h := HL3.out.set i (min (M.getD i 0) (dst ((i : Int) - 48) ((q : Int) - 48)))
               rw [← List.getD_eq_getElem?_getD]
               refine IsLen.drew ?_
               rw [HF.out]
               exact h)
        · obtain rfl : j = xs.length := by omega
          go_wp2_with fail
          refine ⟨⟨i + 1, by omega, rfl, ?_, HR3, HW3⟩, by simp [intOf]; omega⟩
          have h := HL3.out
          rw [List.take_of_length_le (Nat.le_refl _)] at h
          show IsLen wr w.heap.size (bef xs (i + 1))
          rw [bef_succ]
          exact h
    · obtain rfl : i = 97 := by omega
      go_wp2_with fail
      go_ret
      exact ⟨_, rfl, Nat.le_refl _, HL1.out, HW1.out⟩
end Go.Proofs.YtfklhpdnbbefbaaDoor.Rg
