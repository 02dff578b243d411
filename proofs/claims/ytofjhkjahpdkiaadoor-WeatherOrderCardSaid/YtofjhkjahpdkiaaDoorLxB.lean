/-
  The lexer's gap, by a walk over the program.
-/
import Derived.Test.YtofjhkjahpdkiaaDoorLxA
import Derived.Below
import Derived.Laws.Rows
import Derived.Lib.IndexBytes
namespace Go.Proofs.YtofjhkjahpdkiaaDoor.Lx
open Go.RowKit
set_option linter.unusedVariables false
set_option linter.unusedSimpArgs false
theorem IsScan.below {w w' : World} {b : Nat} {s : ByteArray} (h : IsScan w b s) (hb : Below w.heap.size w w') : IsScan w' b s := by
  obtain ⟨h0, hc⟩ := h
  have hlt : b < w.heap.size := World.block_lt_of_cell? w _ h0
  exact ⟨(hb.cell (p := ⟨b, 0, none⟩) hlt).trans h0, fun c => (hb.cell (p := ⟨b, 1 + c.toNat, none⟩) hlt).trans (hc c)⟩
theorem IsScan.lt {w : World} {b : Nat} {s : ByteArray} (h : IsScan w b s) : b < w.heap.size := World.block_lt_of_cell? w _ h.1
theorem isCls_new1 (w : World) (t : TypeId) (f : Nat × Nat) (a : Int) : IsCls (w.alloc (.cells #[.int .i64 a] t f)) w.heap.size [a] := by
  intro j hj
  have : j = 0 := by simpa using hj
  subst this
  have h := heap_alloc_new w (.cells #[.int .i64 a] t f)
  unfold World.cell?
  rw [h]
  rfl
theorem isCls_new3 (w : World) (t : TypeId) (f : Nat × Nat) (a b c : Int) : IsCls (w.alloc (.cells #[.int .i64 a, .int .i64 b, .int .i64 c] t f)) w.heap.size [a, b, c] := by
  intro j hj
  have h := heap_alloc_new w (.cells #[.int .i64 a, .int .i64 b, .int .i64 c] t f)
  have : j = 0 ∨ j = 1 ∨ j = 2 := by
    have : j < 3 := by simpa using hj
    omega
  rcases this with rfl | rfl | rfl <;> unfold World.cell? <;> rw [h] <;> rfl
theorem below_drewN {B : Nat} {a w : World} (h : Below B a w) (n : Nat) : Below B a (w.drewN n) := ⟨h.os, h.tape, h.output, h.size, h.block⟩
theorem below_new {B : Nat} {a w : World} (h : Below B a w) (o : Obj) (hB : B ≤ a.heap.size) : Below B a (w.alloc o) := h.alloc (Nat.le_trans hB h.size) o
theorem below_of_drew {B : Nat} {a w : World} (h : Below B a w) {w' : World} (hw : ∃ n, w' = w.drewN n) : Below B a w' := by
  obtain ⟨n, rfl⟩ := hw
  exact below_drewN h n
theorem at_val (b : Nat) (s : ByteArray) (i : Int) (c : Int) (w : World) (hs : IsScan w b s) (hb : s.size ≤ maxLen) (hi : 0 ≤ i) (hc : clsAt s i = c) :
    Calls Tryd.prog 58 #[.pointer (some ⟨b, 0, none⟩), .int .i64 i] w fun e w' => e = .returned (.int .i64 c) ∧ ∃ n, w' = w.drewN n := by
  rw [← hc]; exact at_any b s i w hs hb hi
theorem indexByte10 (s : ByteArray) (k : Nat) (w : World) (r : Int) (hr : Lib.indexByte (s.data.toList.drop k) 10 = r) :
    Calls Tryd.prog 59 #[.string (s.extract k s.size), .int .u8 10] w fun e w' => e = .returned (.int .i64 r) ∧ w' = w := by
  have h := Tryd.strings_IndexByte (s.extract k s.size) 10 w
  rw [Lib.extract_to_end] at h
  rw [← hr]
  exact h
set_option maxHeartbeats 1000000 in
theorem gap_any (b : Nat) (s : ByteArray) (i : Nat) (w : World) (hs : IsScan w b s) (hb : s.size ≤ maxLen) (hi : i ≤ s.size) :
    Calls Tryd.prog 43 #[.pointer (some ⟨b, 0, none⟩), .int .i64 i] w fun e w' => e = .returned (.int .i64 (gapEnd s i)) ∧ Below w.heap.size w w' := by
  have hb' := hb
  unfold maxLen at hb'
  have hlt := hs.lt
  have HS := Lib.hid hs
  have HB := Lib.hid hb
  clear hb hs
  go_enter Tryd.func43, Tryd.ntmps43
  go_wp2_with fail
  refine (while_any b w.heap.size s [1] i _ (HS.out.below ((Below.refl _ _).alloc (Nat.le_refl _) _)) HB.out hi (isCls_new1 _ _ _ _) (by simp)).mono ?_
  rintro e w1 ⟨rfl, n, rfl⟩
  have hwl := whileEnd_le (cl := [1]) hi
  generalize hk0 : whileEnd s [1] i = k0 at *
  have HK0 := Lib.hid hk0
  clear hk0
  go_wp2_with fail
  go_loopw [1] (fun v wr => ∃ k : Nat, k ≤ s.size ∧ v = .int .i64 k ∧ Below w.heap.size w wr ∧ Hid (∃ j, k = whileEnd s [1] j) ∧ Hid (gapEnd s k = gapEnd s i)) (fun v _ => s.size - (intOf v).toNat)
  case atStart => exact ⟨k0, by omega, rfl, below_drewN (below_new (Below.refl _ _) _ (Nat.le_refl _)) _, ⟨i, HK0.out.symm⟩, by rw [← HK0.out]; exact gapEnd_while s i⟩
  case round =>
    obtain ⟨k, hk, rfl, hbw, HJ, HE⟩ := hrel
    have HSR := Lib.hid (HS.out.below hbw)
    have h0r := HSR.out.1
    have HBW := Lib.hid hbw
    clear hbw
    by_cases hlt : k < s.size
    · have hnb : isBlank s[k] = false := by obtain ⟨j, hj⟩ := HJ.out; exact while_head hj hlt
      have HNB := Lib.hid hnb
      clear hnb
      cases hcl : (cls s[k] == 2)
      · have HCL := Lib.hid hcl
        have hcv := clsAt_in hlt
        have HCV := Lib.hid hcv
        generalize cls s[k] = c at hcl HCV
        clear hcv
        go_wp2_with (go_at_call 58; refine (at_val b s k c _ HSR.out HB.out (by omega) HCV.out).mono ?_; rintro e w' ⟨rfl, m, rfl⟩)
        go_ret
        exact ⟨ret_int (by rw [← HE.out, gapEnd_stop hlt HNB.out HCL.out]), below_drewN HBW.out _⟩
      · have HCL := Lib.hid hcl
        have hcv : clsAt s k = 2 := by rw [clsAt_in hlt]; exact eq_of_beq hcl
        have HCV := Lib.hid hcv
        clear hcv hcl
        by_cases hn : Lib.indexByte (s.data.toList.drop k) 10 < 0
        · have hge := Lib.indexByte_ge (s.data.toList.drop k) 10
          have HR := Lib.hid (show Lib.indexByte (s.data.toList.drop k) 10 = -1 by omega)
          have HN := Lib.hid hn
          clear hn hge
          go_wp2_with (first
            | (go_at_call 58; refine (at_val b s k 2 _ HSR.out HB.out (by omega) HCV.out).mono ?_; rintro e w' ⟨rfl, m, rfl⟩)
            | (go_at_call 59; refine (indexByte10 s k _ (-1) HR.out).mono ?_; rintro e w' ⟨rfl, rfl⟩))
          go_ret
          exact ⟨ret_int (by rw [← HE.out, gapEnd_hash_none hlt HNB.out HCL.out HN.out]), below_drewN HBW.out _⟩
        · obtain ⟨n, hn'⟩ := Int.eq_ofNat_of_zero_le (show 0 ≤ Lib.indexByte (s.data.toList.drop k) 10 by omega)
          obtain ⟨g1, g2, g3⟩ := gapEnd_hash_some hlt HNB.out HCL.out hn'
          have HR := Lib.hid hn'
          have HG := Lib.hid g3
          clear hn hn' g3
          have hkn : k + n ≤ s.size := by omega
          have hwl2 := whileEnd_le (cl := [1]) hkn
          generalize hk2 : whileEnd s [1] (k + n) = k2 at *
          have HK2 := Lib.hid hk2
          clear hk2
          go_wp2_with (first
            | (go_at_call 58; refine (at_val b s k 2 _ HSR.out HB.out (by omega) HCV.out).mono ?_; rintro e w' ⟨rfl, m, rfl⟩)
            | (go_at_call 59; refine (indexByte10 s k _ n HR.out).mono ?_; rintro e w' ⟨rfl, rfl⟩)
            | fail)
          rw [show (k : Int) + (n : Int) = ((k + n : Nat) : Int) from by omega]
          refine (while_any b wr.heap.size s [1] (k + n) _ (HSR.out.below (below_new (below_drewN (Below.refl _ _) _) _ (Nat.le_refl _))) HB.out hkn (isCls_new1 (wr.drewN m) _ _ _) (by simp)).mono ?_
          rintro e w1 ⟨rfl, m1, rfl⟩
          have hb2 : Below w.heap.size w ((((wr.drewN m).alloc (Obj.cells #[Value.int IntKind.i64 1] 3)).drewN m1)) := below_drewN (below_new (below_drewN HBW.out _) _ (Nat.le_refl _)) _
          have HB2 := Lib.hid hb2
          clear hb2
          rw [HK2.out]
          go_wp2_with fail
          go_roundw
          case rel => exact ⟨k2, by omega, rfl, HB2.out, ⟨k + n, HK2.out.symm⟩, by rw [← HE.out, ← HG.out, ← HK2.out]; exact gapEnd_while s (k + n)⟩
          case measure => simp [intOf]; omega
    · obtain rfl : k = s.size := by omega
      have hcv : clsAt s s.size = 0 := clsAt_out (Int.le_refl _)
      have HCV := Lib.hid hcv
      clear hcv
      go_wp2_with (go_at_call 58; refine (at_val b s s.size 0 _ HSR.out HB.out (by omega) HCV.out).mono ?_; rintro e w' ⟨rfl, m, rfl⟩)
      go_ret
      exact ⟨ret_int (by rw [← HE.out, gapEnd_end]), below_drewN HBW.out _⟩
end Go.Proofs.YtofjhkjahpdkiaaDoor.Lx
