/-
  The lexer's next, by walks over the program, one for each way through it.
-/
import Derived.Test.YtofjhkjahpdkiaaDoorLxI
import Derived.Lib.Atoi
import Derived.Lib.AtoiErrMem
import Derived.Laws.DeepStrings4
namespace Go.Proofs.YtofjhkjahpdkiaaDoor.Lx
open Go.RowKit Go.Proofs.YtofjhkjahpdkiaaDoorW.PrintWords
set_option linter.unusedVariables false
set_option linter.unusedSimpArgs false
def tokV (k : Int) (t : ByteArray) (n at_ : Int) : Value := .agg #[.int .i64 k, .string t, .int .i64 n, .int .i64 at_]
def nextV (v : Value) (e err : Int) : Value := .tuple #[v, .int .i64 e, .int .i64 err]
def noTok : Value := tokV 0 ⟨#[]⟩ 0 0
/-- The world while next runs: the token's block, the scanner, and all else as it was. -/
structure St (w w1 : World) (b : Nat) (s : ByteArray) : Prop where
  below : Below w.heap.size w w1
  scan : IsScan w1 b s
  blk : w1.heap[w.heap.size]? = some (.cells #[.int .i64 0, .string ⟨#[]⟩, .int .i64 0, .int .i64 0] 50 (0, 0))
theorem St.start (w : World) (b : Nat) (s : ByteArray) (h : IsScan w b s) (m : Nat) : St w ((w.alloc (.cells #[.int .i64 0, .string ⟨#[]⟩, .int .i64 0, .int .i64 0] 50 (0, 0))).drewN m) b s :=
  have hb := below_drewN (below_new (Below.refl _ _) (.cells #[.int .i64 0, .string ⟨#[]⟩, .int .i64 0, .int .i64 0] 50 (0, 0)) (Nat.le_refl _)) m
  ⟨hb, h.below hb, blk_drewN (blk_new _ _) m⟩
theorem St.go {w w1 w2 : World} {b : Nat} {s : ByteArray} (h : St w w1 b s) (hb : Below w1.heap.size w1 w2) : St w w2 b s :=
  ⟨below_then h.below h.below.size hb, h.scan.below hb, blk_below h.blk hb⟩
theorem St.facts {w w1 : World} {b : Nat} {s : ByteArray} (h : St w w1 b s) : w1.cell? ⟨b, 0, none⟩ = some (.string s) ∧
    (w1.cell? ⟨w.heap.size, 0, none⟩ = some (.int .i64 0) ∧ w1.cell? ⟨w.heap.size, 1, none⟩ = some (.string ⟨#[]⟩) ∧ w1.cell? ⟨w.heap.size, 2, none⟩ = some (.int .i64 0) ∧ w1.cell? ⟨w.heap.size, 3, none⟩ = some (.int .i64 0)) ∧
    (w1.frozen? ⟨w.heap.size, 0, none⟩ = false ∧ w1.frozen? ⟨w.heap.size, 1, none⟩ = false ∧ w1.frozen? ⟨w.heap.size, 2, none⟩ = false ∧ w1.frozen? ⟨w.heap.size, 3, none⟩ = false) ∧ w.heap.size < w1.heap.size :=
  ⟨h.scan.1, ⟨(blk_cell h.blk 0).trans rfl, (blk_cell h.blk 1).trans rfl, (blk_cell h.blk 2).trans rfl, (blk_cell h.blk 3).trans rfl⟩, ⟨blk_frozen h.blk 0, blk_frozen h.blk 1, blk_frozen h.blk 2, blk_frozen h.blk 3⟩, blk_lt h.blk⟩
theorem St.done {w w1 : World} {b : Nat} {s : ByteArray} (h : St w w1 b s) (k : Int) (t : ByteArray) (n a : Int) : Below w.heap.size w ((((w1.setCell ⟨w.heap.size, 0, none⟩ (.int .i64 k)).setCell ⟨w.heap.size, 1, none⟩ (.string t)).setCell ⟨w.heap.size, 2, none⟩ (.int .i64 n)).setCell ⟨w.heap.size, 3, none⟩ (.int .i64 a)) :=
  (((h.below.setCell (Nat.le_refl _) _).setCell (Nat.le_refl _) _).setCell (Nat.le_refl _) _).setCell (Nat.le_refl _) _
theorem St.blkDone {w w1 : World} {b : Nat} {s : ByteArray} (h : St w w1 b s) (k : Int) (t : ByteArray) (n a : Int) : ((((w1.setCell ⟨w.heap.size, 0, none⟩ (.int .i64 k)).setCell ⟨w.heap.size, 1, none⟩ (.string t)).setCell ⟨w.heap.size, 2, none⟩ (.int .i64 n)).setCell ⟨w.heap.size, 3, none⟩ (.int .i64 a)).heap[w.heap.size]? = some (.cells #[.int .i64 k, .string t, .int .i64 n, .int .i64 a] 50 (0, 0)) :=
  blk_put (blk_put (blk_put (blk_put h.blk 0 _ rfl) 1 _ rfl) 2 _ rfl) 3 _ rfl
theorem decFrom_digits : ∀ (l : List UInt8) (acc : Nat), l.all isDigit = true → ∃ n : Nat, Lib.decFrom acc l = some n ∧ (n : Int) = l.foldl (fun n b => 10 * n + ((b.toNat : Int) - 48)) (acc : Int)
  | [], acc, _ => ⟨acc, rfl, rfl⟩
  | b :: r, acc, h => by
    rw [List.all_cons, Bool.and_eq_true] at h
    have hd : 48 ≤ b.toNat ∧ b.toNat ≤ 57 := by
      have := h.1
      unfold isDigit at this
      simpa [UInt8.le_iff_toNat_le] using this
    obtain ⟨n, h1, h2⟩ := decFrom_digits r (acc * 10 + (b.toNat - 48)) h.2
    refine ⟨n, ?_, ?_⟩
    · simp only [Lib.decFrom, Lib.digitVal, if_pos hd]; exact h1
    · rw [List.foldl_cons, h2]; congr 1; omega
theorem atoi_digits (l : List UInt8) (h : l.all isDigit = true) (hne : l ≠ []) : Lib.atoi l = some (numOf l) := by
  obtain ⟨n, h1, h2⟩ := decFrom_digits l 0 h
  cases l with
  | nil => exact absurd rfl hne
  | cons b r =>
    have hd : 48 ≤ b.toNat ∧ b.toNat ≤ 57 := by
      have := (Bool.and_eq_true _ _ ▸ List.all_cons ▸ h : isDigit b = true ∧ _).1
      unfold isDigit at this
      simpa [UInt8.le_iff_toNat_le] using this
    have e1 : (b == 45) = false := beq_eq_false_iff_ne.2 (fun e => by rw [e] at hd; exact absurd hd.1 (by decide))
    have e2 : (b == 43) = false := beq_eq_false_iff_ne.2 (fun e => by rw [e] at hd; exact absurd hd.1 (by decide))
    have e3 : Lib.decNat (b :: r) = some n := by rw [Lib.decNat, if_neg (by simp)]; exact h1
    rw [Lib.atoi, if_neg (by rw [e1]; simp), if_neg (by rw [e2]; simp), e3]
    simp only [Option.map_some, numOf]
    rw [h2]; rfl
theorem atoi_calls (s : ByteArray) (w : World) (h : s.data.toList.all isDigit = true) (h0 : 0 < s.size) (h1 : s.size ≤ 18) (n : Int) (hn : numOf s.data.toList = n) :
    Calls Tryd.prog 60 #[.string s] w fun e w' => e = .returned (.tuple #[.int .i64 n, .nilIface]) ∧ Below w.heap.size w w' := by
  refine (Tryd.strconv_Atoi s n h1 ?_ w).mono ?_
  · rw [← hn]; exact atoi_digits _ h (fun e => by rw [Lib.size_eq, e] at h0; simp at h0)
  · rintro e w' ⟨rfl, t, rfl⟩
    exact ⟨rfl, Lib.bytesWorld_below _ _ _⟩
theorem prefix_calls (s : ByteArray) (a : Nat) (w : World) (r : Bool) (hr : Lib.hasPrefix (s.data.toList.drop a) [61] = r) :
    Calls Tryd.prog 62 #[.string (s.extract a s.size), .string ⟨#[61]⟩] w fun e w' => e = .returned (.bool r) ∧ w' = w := by
  have h := Tryd.strings_HasPrefix (s.extract a s.size) ⟨#[61]⟩ w
  rw [Lib.extract_to_end] at h
  rw [← hr]; exact h
theorem indexAny_calls (s : ByteArray) (a : Nat) (w : World) (hs : s.size < 4294967281) (r : Int) (hr : Lib.indexAny (s.data.toList.drop a) [34, 10] = r) :
    Calls Tryd.prog 61 #[.string (s.extract a s.size), .string ⟨#[34, 10]⟩] w fun e w' => e = .returned (.int .i64 r) ∧ Below w.heap.size w w' := by
  have h := indexAny_any (s.extract a s.size) w (by rw [Lib.size_eq, Lib.extract_to_end, List.length_drop, ← Lib.size_eq]; omega)
  rw [Lib.extract_to_end] at h
  rw [← hr]; exact h

theorem slice_run (s : ByteArray) (i d : Nat) (h : i + d ≤ s.size) (W : World) (j : Int) (hj : j = (i : Int) + d) :
    (Instr.slice 9 (.string s) (some (.int .i64 i)) (some (.int .i64 j)) none).run Tryd.prog W = .ok (.string (s.extract i (i + d))) W := by
  subst hj
  have hu : Tryd.prog.underlying 9 = some .string := Tryd.underlying9
  rw [run_slice_string_if (h := hu), if_pos ⟨by omega, by omega⟩, if_pos ⟨by omega, by omega⟩]
  rw [Int.toNat_natCast, show ((i : Int) + (d : Int)).toNat = i + d by omega]

set_option maxHeartbeats 2000000 in
set_option maxRecDepth 1000000 in
theorem next_name_ok (b : Nat) (s : ByteArray) (i : Nat) (w : World) (hs : IsScan w b s) (hb : s.size < 4294967281) (hi : i < s.size) (hc : clsAt s i = 3) (hl : whileEnd s [3, 4, 5] i ≤ i + 24) :
    Calls Tryd.prog 44 #[.pointer (some ⟨b, 0, none⟩), .int .i64 i] w fun e w' => e = .returned (nextV (tokV 1 (s.extract i (whileEnd s [3, 4, 5] i)) 0 i) (whileEnd s [3, 4, 5] i) 0) ∧ Below w.heap.size w w' := by
  have hbm : s.size ≤ maxLen := by unfold maxLen; omega
  have HS := Lib.hid hs
  have HB := Lib.hid hbm
  have HC := Lib.hid hc
  have hlt := hs.lt
  clear hs hbm hc
  have hwl := whileEnd_le (s := s) (cl := [3, 4, 5]) (Nat.le_of_lt hi)
  generalize hE : whileEnd s [3, 4, 5] i = E at *
  have HE := Lib.hid hE
  clear hE
  have hld : decide (((24 : Int) < (E : Int) - (i : Int))) = false := decide_eq_false (by omega)
  go_enter Tryd.func44, Tryd.ntmps44
  go_wp2_with fail
  refine (at_val b s i 3 _ (HS.out.below ?_) HB.out (by omega) HC.out).mono ?_
  · exact below_new (Below.refl _ _) _ (Nat.le_refl _)
  rintro e w1 ⟨rfl, m, rfl⟩
  have S1 := St.start w b s HS.out m
  generalize ((w.alloc (.cells #[.int .i64 0, .string ⟨#[]⟩, .int .i64 0, .int .i64 0] 50 (0, 0))).drewN m) = w1 at *
  clear m
  go_wp2_with fail
  have N1 := S1.go (below_new (Below.refl _ _) (.cells #[.int .i64 3, .int .i64 4, .int .i64 5] 3 (0, 0)) (Nat.le_refl _))
  refine (while_any b w1.heap.size s [3, 4, 5] i _ N1.scan HB.out (Nat.le_of_lt hi) (isCls_new3 _ _ _ _ _ _) (by simp)).mono ?_
  rintro e w9 ⟨rfl, m, rfl⟩
  have S2 := N1.go (below_drewN (Below.refl _ _) m)
  clear N1
  generalize ((w1.alloc (.cells #[.int .i64 3, .int .i64 4, .int .i64 5] 3 (0, 0))).drewN m) = w2 at *
  clear m
  rw [HE.out]
  obtain ⟨h0, ⟨c0, c1, c2, c3⟩, ⟨f0, f1, f2, f3⟩, hsz⟩ := S2.facts
  go_wp2_with fail
  exact bodyPost_ret (results_ctt rfl _ _ w.heap.size 50 #[.int .i64 1, .string (s.extract i E), .int .i64 0, .int .i64 i] (0, 0) _ rfl (S2.blkDone _ _ _ _) Tryd.underlying50 rfl (by kernel_rfl)) rfl ⟨rfl, S2.done _ _ _ _⟩

set_option maxHeartbeats 2000000 in
set_option maxRecDepth 1000000 in
theorem next_name_long (b : Nat) (s : ByteArray) (i : Nat) (w : World) (hs : IsScan w b s) (hb : s.size < 4294967281) (hi : i < s.size) (hc : clsAt s i = 3) (hl : whileEnd s [3, 4, 5] i > i + 24) :
    Calls Tryd.prog 44 #[.pointer (some ⟨b, 0, none⟩), .int .i64 i] w fun e w' => e = .returned (nextV noTok 0 2) ∧ Below w.heap.size w w' := by
  have hbm : s.size ≤ maxLen := by unfold maxLen; omega
  have HS := Lib.hid hs
  have HB := Lib.hid hbm
  have HC := Lib.hid hc
  have hlt := hs.lt
  clear hs hbm hc
  have hwl := whileEnd_le (s := s) (cl := [3, 4, 5]) (Nat.le_of_lt hi)
  generalize hE : whileEnd s [3, 4, 5] i = E at *
  have HE := Lib.hid hE
  clear hE
  have hld : decide (((24 : Int) < (E : Int) - (i : Int))) = true := decide_eq_true (by omega)
  go_enter Tryd.func44, Tryd.ntmps44
  go_wp2_with fail
  refine (at_val b s i 3 _ (HS.out.below ?_) HB.out (by omega) HC.out).mono ?_
  · exact below_new (Below.refl _ _) _ (Nat.le_refl _)
  rintro e w1 ⟨rfl, m, rfl⟩
  have S1 := St.start w b s HS.out m
  generalize ((w.alloc (.cells #[.int .i64 0, .string ⟨#[]⟩, .int .i64 0, .int .i64 0] 50 (0, 0))).drewN m) = w1 at *
  clear m
  go_wp2_with fail
  have N1 := S1.go (below_new (Below.refl _ _) (.cells #[.int .i64 3, .int .i64 4, .int .i64 5] 3 (0, 0)) (Nat.le_refl _))
  refine (while_any b w1.heap.size s [3, 4, 5] i _ N1.scan HB.out (Nat.le_of_lt hi) (isCls_new3 _ _ _ _ _ _) (by simp)).mono ?_
  rintro e w9 ⟨rfl, m, rfl⟩
  have S2 := N1.go (below_drewN (Below.refl _ _) m)
  clear N1
  generalize ((w1.alloc (.cells #[.int .i64 3, .int .i64 4, .int .i64 5] 3 (0, 0))).drewN m) = w2 at *
  clear m
  rw [HE.out]
  obtain ⟨h0, ⟨c0, c1, c2, c3⟩, ⟨f0, f1, f2, f3⟩, hsz⟩ := S2.facts
  go_wp2_with fail
  exact bodyPost_ret (results_ctt rfl _ _ w.heap.size 50 #[.int .i64 0, .string ⟨#[]⟩, .int .i64 0, .int .i64 0] (0, 0) _ rfl (S2.blkDone _ _ _ _) Tryd.underlying50 rfl (by kernel_rfl)) rfl ⟨rfl, S2.done _ _ _ _⟩

set_option maxHeartbeats 2000000 in
set_option maxRecDepth 1000000 in
theorem next_num_long (b : Nat) (s : ByteArray) (i : Nat) (w : World) (hs : IsScan w b s) (hb : s.size < 4294967281) (hi : i < s.size) (hc : clsAt s i = 4) (hl : whileEnd s [4] i > i + 13) :
    Calls Tryd.prog 44 #[.pointer (some ⟨b, 0, none⟩), .int .i64 i] w fun e w' => e = .returned (nextV noTok 0 4) ∧ Below w.heap.size w w' := by
  have hbm : s.size ≤ maxLen := by unfold maxLen; omega
  have HS := Lib.hid hs
  have HB := Lib.hid hbm
  have HC := Lib.hid hc
  have hlt := hs.lt
  clear hs hbm hc
  have hwl := whileEnd_le (s := s) (cl := [4]) (Nat.le_of_lt hi)
  generalize hE : whileEnd s [4] i = E at *
  have HE := Lib.hid hE
  clear hE
  have hld : decide (((13 : Int) < (E : Int) - (i : Int))) = true := decide_eq_true (by omega)
  generalize hA : clsAt s E = a at *
  have HA := Lib.hid hA
  clear hA
  go_enter Tryd.func44, Tryd.ntmps44
  go_wp2_with fail
  refine (at_val b s i 4 _ (HS.out.below ?_) HB.out (by omega) HC.out).mono ?_
  · exact below_new (Below.refl _ _) _ (Nat.le_refl _)
  rintro e w1 ⟨rfl, m, rfl⟩
  have S1 := St.start w b s HS.out m
  generalize ((w.alloc (.cells #[.int .i64 0, .string ⟨#[]⟩, .int .i64 0, .int .i64 0] 50 (0, 0))).drewN m) = w1 at *
  clear m
  go_wp2_with fail
  have N1 := S1.go (below_new (Below.refl _ _) (.cells #[.int .i64 4] 3 (0, 0)) (Nat.le_refl _))
  refine (while_any b w1.heap.size s [4] i _ N1.scan HB.out (Nat.le_of_lt hi) (isCls_new1 _ _ _ _) (by simp)).mono ?_
  rintro e w9 ⟨rfl, m, rfl⟩
  have S2 := N1.go (below_drewN (Below.refl _ _) m)
  clear N1
  generalize ((w1.alloc (.cells #[.int .i64 4] 3 (0, 0))).drewN m) = w2 at *
  clear m
  rw [HE.out]
  go_wp2_with fail
  refine (at_val b s E a _ S2.scan HB.out (by omega) HA.out).mono ?_
  rintro e w9 ⟨rfl, m, rfl⟩
  have S3 := S2.go (below_drewN (Below.refl _ _) m)
  generalize w2.drewN m = w3 at *
  clear m S2
  obtain ⟨h0, ⟨c0, c1, c2, c3⟩, ⟨f0, f1, f2, f3⟩, hsz⟩ := S3.facts
  go_wp2_with fail
  exact bodyPost_ret (results_ctt rfl _ _ w.heap.size 50 #[.int .i64 0, .string ⟨#[]⟩, .int .i64 0, .int .i64 0] (0, 0) _ rfl (S3.blkDone _ _ _ _) Tryd.underlying50 rfl (by kernel_rfl)) rfl ⟨rfl, S3.done _ _ _ _⟩

set_option maxHeartbeats 2000000 in
set_option maxRecDepth 1000000 in
theorem next_num_3 (b : Nat) (s : ByteArray) (i : Nat) (w : World) (hs : IsScan w b s) (hb : s.size < 4294967281) (hi : i < s.size) (hc : clsAt s i = 4) (hl : whileEnd s [4] i ≤ i + 13) (ha : clsAt s (whileEnd s [4] i) = 3) :
    Calls Tryd.prog 44 #[.pointer (some ⟨b, 0, none⟩), .int .i64 i] w fun e w' => e = .returned (nextV noTok 0 4) ∧ Below w.heap.size w w' := by
  have hbm : s.size ≤ maxLen := by unfold maxLen; omega
  have HS := Lib.hid hs
  have HB := Lib.hid hbm
  have HC := Lib.hid hc
  have hlt := hs.lt
  clear hs hbm hc
  have hwl := whileEnd_le (s := s) (cl := [4]) (Nat.le_of_lt hi)
  generalize hE : whileEnd s [4] i = E at *
  have HE := Lib.hid hE
  clear hE
  have hld : decide (((13 : Int) < (E : Int) - (i : Int))) = false := decide_eq_false (by omega)
  have HA := Lib.hid ha
  clear ha
  go_enter Tryd.func44, Tryd.ntmps44
  go_wp2_with fail
  refine (at_val b s i 4 _ (HS.out.below ?_) HB.out (by omega) HC.out).mono ?_
  · exact below_new (Below.refl _ _) _ (Nat.le_refl _)
  rintro e w1 ⟨rfl, m, rfl⟩
  have S1 := St.start w b s HS.out m
  generalize ((w.alloc (.cells #[.int .i64 0, .string ⟨#[]⟩, .int .i64 0, .int .i64 0] 50 (0, 0))).drewN m) = w1 at *
  clear m
  go_wp2_with fail
  have N1 := S1.go (below_new (Below.refl _ _) (.cells #[.int .i64 4] 3 (0, 0)) (Nat.le_refl _))
  refine (while_any b w1.heap.size s [4] i _ N1.scan HB.out (Nat.le_of_lt hi) (isCls_new1 _ _ _ _) (by simp)).mono ?_
  rintro e w9 ⟨rfl, m, rfl⟩
  have S2 := N1.go (below_drewN (Below.refl _ _) m)
  clear N1
  generalize ((w1.alloc (.cells #[.int .i64 4] 3 (0, 0))).drewN m) = w2 at *
  clear m
  rw [HE.out]
  go_wp2_with fail
  refine (at_val b s E 3 _ S2.scan HB.out (by omega) HA.out).mono ?_
  rintro e w9 ⟨rfl, m, rfl⟩
  have S3 := S2.go (below_drewN (Below.refl _ _) m)
  generalize w2.drewN m = w3 at *
  clear m S2
  obtain ⟨h0, ⟨c0, c1, c2, c3⟩, ⟨f0, f1, f2, f3⟩, hsz⟩ := S3.facts
  go_wp2_with fail
  exact bodyPost_ret (results_ctt rfl _ _ w.heap.size 50 #[.int .i64 0, .string ⟨#[]⟩, .int .i64 0, .int .i64 0] (0, 0) _ rfl (S3.blkDone _ _ _ _) Tryd.underlying50 rfl (by kernel_rfl)) rfl ⟨rfl, S3.done _ _ _ _⟩

set_option maxHeartbeats 2000000 in
set_option maxRecDepth 1000000 in
theorem next_num_5 (b : Nat) (s : ByteArray) (i : Nat) (w : World) (hs : IsScan w b s) (hb : s.size < 4294967281) (hi : i < s.size) (hc : clsAt s i = 4) (hl : whileEnd s [4] i ≤ i + 13) (ha : clsAt s (whileEnd s [4] i) = 5) :
    Calls Tryd.prog 44 #[.pointer (some ⟨b, 0, none⟩), .int .i64 i] w fun e w' => e = .returned (nextV noTok 0 4) ∧ Below w.heap.size w w' := by
  have hbm : s.size ≤ maxLen := by unfold maxLen; omega
  have HS := Lib.hid hs
  have HB := Lib.hid hbm
  have HC := Lib.hid hc
  have hlt := hs.lt
  clear hs hbm hc
  have hwl := whileEnd_le (s := s) (cl := [4]) (Nat.le_of_lt hi)
  generalize hE : whileEnd s [4] i = E at *
  have HE := Lib.hid hE
  clear hE
  have hld : decide (((13 : Int) < (E : Int) - (i : Int))) = false := decide_eq_false (by omega)
  have HA := Lib.hid ha
  clear ha
  go_enter Tryd.func44, Tryd.ntmps44
  go_wp2_with fail
  refine (at_val b s i 4 _ (HS.out.below ?_) HB.out (by omega) HC.out).mono ?_
  · exact below_new (Below.refl _ _) _ (Nat.le_refl _)
  rintro e w1 ⟨rfl, m, rfl⟩
  have S1 := St.start w b s HS.out m
  generalize ((w.alloc (.cells #[.int .i64 0, .string ⟨#[]⟩, .int .i64 0, .int .i64 0] 50 (0, 0))).drewN m) = w1 at *
  clear m
  go_wp2_with fail
  have N1 := S1.go (below_new (Below.refl _ _) (.cells #[.int .i64 4] 3 (0, 0)) (Nat.le_refl _))
  refine (while_any b w1.heap.size s [4] i _ N1.scan HB.out (Nat.le_of_lt hi) (isCls_new1 _ _ _ _) (by simp)).mono ?_
  rintro e w9 ⟨rfl, m, rfl⟩
  have S2 := N1.go (below_drewN (Below.refl _ _) m)
  clear N1
  generalize ((w1.alloc (.cells #[.int .i64 4] 3 (0, 0))).drewN m) = w2 at *
  clear m
  rw [HE.out]
  go_wp2_with fail
  refine (at_val b s E 5 _ S2.scan HB.out (by omega) HA.out).mono ?_
  rintro e w9 ⟨rfl, m, rfl⟩
  have S3 := S2.go (below_drewN (Below.refl _ _) m)
  generalize w2.drewN m = w3 at *
  clear m S2
  obtain ⟨h0, ⟨c0, c1, c2, c3⟩, ⟨f0, f1, f2, f3⟩, hsz⟩ := S3.facts
  go_wp2_with fail
  exact bodyPost_ret (results_ctt rfl _ _ w.heap.size 50 #[.int .i64 0, .string ⟨#[]⟩, .int .i64 0, .int .i64 0] (0, 0) _ rfl (S3.blkDone _ _ _ _) Tryd.underlying50 rfl (by kernel_rfl)) rfl ⟨rfl, S3.done _ _ _ _⟩

set_option maxHeartbeats 2000000 in
set_option maxRecDepth 1000000 in
theorem next_num_ok (b : Nat) (s : ByteArray) (i : Nat) (w : World) (hs : IsScan w b s) (hb : s.size < 4294967281) (hi : i < s.size) (hc : clsAt s i = 4) (hl : whileEnd s [4] i ≤ i + 13) (hlo : i < whileEnd s [4] i) (a : Int) (ha : clsAt s (whileEnd s [4] i) = a) (h3 : (a == 3) = false) (h5 : (a == 5) = false) (hdg : (s.extract i (whileEnd s [4] i)).data.toList.all isDigit = true) :
    Calls Tryd.prog 44 #[.pointer (some ⟨b, 0, none⟩), .int .i64 i] w fun e w' => e = .returned (nextV (tokV 2 (s.extract i (whileEnd s [4] i)) (numOf (s.extract i (whileEnd s [4] i)).data.toList) i) (whileEnd s [4] i) 0) ∧ Below w.heap.size w w' := by
  have hbm : s.size ≤ maxLen := by unfold maxLen; omega
  have HS := Lib.hid hs
  have HB := Lib.hid hbm
  have HC := Lib.hid hc
  have hlt := hs.lt
  clear hs hbm hc
  have hwl := whileEnd_le (s := s) (cl := [4]) (Nat.le_of_lt hi)
  generalize hE : whileEnd s [4] i = E at *
  have HE := Lib.hid hE
  clear hE
  have hld : decide (((13 : Int) < (E : Int) - (i : Int))) = false := decide_eq_false (by omega)
  have HA := Lib.hid ha
  have HD := Lib.hid hdg
  clear ha hdg
  have hz : (s.extract i E).size = E - i := by rw [Lib.size_eq, Lib.extract_data, List.length_take, List.length_drop, ← Lib.size_eq]; omega
  generalize hN : numOf (s.extract i E).data.toList = n at *
  have HN := Lib.hid hN
  have HZ := Lib.hid hz
  clear hN hz
  go_enter Tryd.func44, Tryd.ntmps44
  go_wp2_with fail
  refine (at_val b s i 4 _ (HS.out.below ?_) HB.out (by omega) HC.out).mono ?_
  · exact below_new (Below.refl _ _) _ (Nat.le_refl _)
  rintro e w1 ⟨rfl, m, rfl⟩
  have S1 := St.start w b s HS.out m
  generalize ((w.alloc (.cells #[.int .i64 0, .string ⟨#[]⟩, .int .i64 0, .int .i64 0] 50 (0, 0))).drewN m) = w1 at *
  clear m
  go_wp2_with fail
  have N1 := S1.go (below_new (Below.refl _ _) (.cells #[.int .i64 4] 3 (0, 0)) (Nat.le_refl _))
  refine (while_any b w1.heap.size s [4] i _ N1.scan HB.out (Nat.le_of_lt hi) (isCls_new1 _ _ _ _) (by simp)).mono ?_
  rintro e w9 ⟨rfl, m, rfl⟩
  have S2 := N1.go (below_drewN (Below.refl _ _) m)
  clear N1
  generalize ((w1.alloc (.cells #[.int .i64 4] 3 (0, 0))).drewN m) = w2 at *
  clear m
  rw [HE.out]
  go_wp2_with fail
  refine (at_val b s E a _ S2.scan HB.out (by omega) HA.out).mono ?_
  rintro e w9 ⟨rfl, m, rfl⟩
  have S3 := S2.go (below_drewN (Below.refl _ _) m)
  generalize w2.drewN m = w3 at *
  clear m S2
  obtain ⟨h0, ⟨c0, c1, c2, c3⟩, ⟨f0, f1, f2, f3⟩, hsz⟩ := S3.facts
  go_wp2_with fail
  refine (atoi_calls (s.extract i E) _ HD.out (by rw [HZ.out]; omega) (by rw [HZ.out]; omega) n HN.out).mono ?_
  rintro e w4 ⟨rfl, hb4⟩
  have S4 := S3.go hb4
  clear hb4 h0 c0 c1 c2 c3 f0 f1 f2 f3 hsz
  obtain ⟨h0, ⟨c0, c1, c2, c3⟩, ⟨f0, f1, f2, f3⟩, hsz⟩ := S4.facts
  go_wp2_with fail
  exact bodyPost_ret (results_ctt rfl _ _ w.heap.size 50 #[.int .i64 2, .string (s.extract i E), .int .i64 n, .int .i64 i] (0, 0) _ rfl (S4.blkDone _ _ _ _) Tryd.underlying50 rfl (by kernel_rfl)) rfl ⟨rfl, S4.done _ _ _ _⟩

set_option maxHeartbeats 2000000 in
set_option maxRecDepth 1000000 in
theorem next_str_none (b : Nat) (s : ByteArray) (i : Nat) (w : World) (hs : IsScan w b s) (hb : s.size < 4294967281) (hi : i < s.size) (hc : clsAt s i = 6) (hr : Lib.indexAny (s.data.toList.drop (i + 1)) [34, 10] = -1) :
    Calls Tryd.prog 44 #[.pointer (some ⟨b, 0, none⟩), .int .i64 i] w fun e w' => e = .returned (nextV noTok 0 6) ∧ Below w.heap.size w w' := by
  have hbm : s.size ≤ maxLen := by unfold maxLen; omega
  have HS := Lib.hid hs
  have HB := Lib.hid hbm
  have HC := Lib.hid hc
  have hlt := hs.lt
  clear hs hbm hc
  have HR := Lib.hid hr
  clear hr
  go_enter Tryd.func44, Tryd.ntmps44
  go_wp2_with fail
  refine (at_val b s i 6 _ (HS.out.below ?_) HB.out (by omega) HC.out).mono ?_
  · exact below_new (Below.refl _ _) _ (Nat.le_refl _)
  rintro e w1 ⟨rfl, m, rfl⟩
  have S1 := St.start w b s HS.out m
  generalize ((w.alloc (.cells #[.int .i64 0, .string ⟨#[]⟩, .int .i64 0, .int .i64 0] 50 (0, 0))).drewN m) = w1 at *
  clear m
  obtain ⟨h0, ⟨c0, c1, c2, c3⟩, ⟨f0, f1, f2, f3⟩, hsz⟩ := S1.facts
  go_wp2_with fail
  refine (indexAny_calls s (i + 1) _ (by omega) (-1) HR.out).mono ?_
  rintro e w2 ⟨rfl, hb2⟩
  have S2 := S1.go hb2
  clear hb2 h0 c0 c1 c2 c3 f0 f1 f2 f3 hsz
  obtain ⟨h0, ⟨c0, c1, c2, c3⟩, ⟨f0, f1, f2, f3⟩, hsz⟩ := S2.facts
  go_wp2_with fail
  exact bodyPost_ret (results_ctt rfl _ _ w.heap.size 50 #[.int .i64 0, .string ⟨#[]⟩, .int .i64 0, .int .i64 0] (0, 0) _ rfl (S2.blkDone _ _ _ _) Tryd.underlying50 rfl (by kernel_rfl)) rfl ⟨rfl, S2.done _ _ _ _⟩

set_option maxHeartbeats 2000000 in
set_option maxRecDepth 1000000 in
theorem next_str_line (b : Nat) (s : ByteArray) (i : Nat) (w : World) (hs : IsScan w b s) (hb : s.size < 4294967281) (hi : i < s.size) (hc : clsAt s i = 6) (n : Nat) (hlt' : i + 1 + n < s.size) (hr : Lib.indexAny (s.data.toList.drop (i + 1)) [34, 10] = n) (hq : s[i + 1 + n]'hlt' = 10) :
    Calls Tryd.prog 44 #[.pointer (some ⟨b, 0, none⟩), .int .i64 i] w fun e w' => e = .returned (nextV noTok 0 6) ∧ Below w.heap.size w w' := by
  have hbm : s.size ≤ maxLen := by unfold maxLen; omega
  have HS := Lib.hid hs
  have HB := Lib.hid hbm
  have HC := Lib.hid hc
  have hlt := hs.lt
  clear hs hbm hc
  have HR := Lib.hid hr
  clear hr
  have hz : (s.extract (i + 1) s.size).size = s.size - (i + 1) := by rw [Lib.size_eq, Lib.extract_to_end, List.length_drop, ← Lib.size_eq]
  have hn : n < (s.extract (i + 1) s.size).size := by omega
  have hbyte : ((s.extract (i + 1) s.size)[n]'hn) = s[i + 1 + n]'hlt' := by
    have e1 := Lib.data_getElem? (s.extract (i + 1) s.size) n hn
    rw [Lib.extract_to_end, List.getElem?_drop, Lib.data_getElem? s (i + 1 + n) hlt'] at e1
    exact (Option.some.inj e1).symm
  have HZ := Lib.hid hz
  clear hz
  have hq2 : ((((s.extract (i + 1) s.size)[n]'hn).toNat : Int) == 10) = true := by rw [hbyte, hq]; rfl
  clear hbyte hq
  go_enter Tryd.func44, Tryd.ntmps44
  go_wp2_with fail
  refine (at_val b s i 6 _ (HS.out.below ?_) HB.out (by omega) HC.out).mono ?_
  · exact below_new (Below.refl _ _) _ (Nat.le_refl _)
  rintro e w1 ⟨rfl, m, rfl⟩
  have S1 := St.start w b s HS.out m
  generalize ((w.alloc (.cells #[.int .i64 0, .string ⟨#[]⟩, .int .i64 0, .int .i64 0] 50 (0, 0))).drewN m) = w1 at *
  clear m
  obtain ⟨h0, ⟨c0, c1, c2, c3⟩, ⟨f0, f1, f2, f3⟩, hsz⟩ := S1.facts
  go_wp2_with fail
  refine (indexAny_calls s (i + 1) _ (by omega) n HR.out).mono ?_
  rintro e w2 ⟨rfl, hb2⟩
  have S2 := S1.go hb2
  clear hb2 h0 c0 c1 c2 c3 f0 f1 f2 f3 hsz
  obtain ⟨h0, ⟨c0, c1, c2, c3⟩, ⟨f0, f1, f2, f3⟩, hsz⟩ := S2.facts
  go_wp2_with fail
  exact bodyPost_ret (results_ctt rfl _ _ w.heap.size 50 #[.int .i64 0, .string ⟨#[]⟩, .int .i64 0, .int .i64 0] (0, 0) _ rfl (S2.blkDone _ _ _ _) Tryd.underlying50 rfl (by kernel_rfl)) rfl ⟨rfl, S2.done _ _ _ _⟩

set_option maxHeartbeats 2000000 in
set_option maxRecDepth 1000000 in
theorem next_str_ok (b : Nat) (s : ByteArray) (i : Nat) (w : World) (hs : IsScan w b s) (hb : s.size < 4294967281) (hi : i < s.size) (hc : clsAt s i = 6) (n : Nat) (hlt' : i + 1 + n < s.size) (hr : Lib.indexAny (s.data.toList.drop (i + 1)) [34, 10] = n) (hq : s[i + 1 + n]'hlt' = 34) (hl : n ≤ 400) :
    Calls Tryd.prog 44 #[.pointer (some ⟨b, 0, none⟩), .int .i64 i] w fun e w' => e = .returned (nextV (tokV 3 ((s.extract (i + 1) s.size).extract 0 n) 0 i) ((i : Int) + n + 2) 0) ∧ Below w.heap.size w w' := by
  have hbm : s.size ≤ maxLen := by unfold maxLen; omega
  have HS := Lib.hid hs
  have HB := Lib.hid hbm
  have HC := Lib.hid hc
  have hlt := hs.lt
  clear hs hbm hc
  have HR := Lib.hid hr
  clear hr
  have hz : (s.extract (i + 1) s.size).size = s.size - (i + 1) := by rw [Lib.size_eq, Lib.extract_to_end, List.length_drop, ← Lib.size_eq]
  have hn : n < (s.extract (i + 1) s.size).size := by omega
  have hbyte : ((s.extract (i + 1) s.size)[n]'hn) = s[i + 1 + n]'hlt' := by
    have e1 := Lib.data_getElem? (s.extract (i + 1) s.size) n hn
    rw [Lib.extract_to_end, List.getElem?_drop, Lib.data_getElem? s (i + 1 + n) hlt'] at e1
    exact (Option.some.inj e1).symm
  have HZ := Lib.hid hz
  clear hz
  have hq2 : ((((s.extract (i + 1) s.size)[n]'hn).toNat : Int) == 10) = false := by rw [hbyte, hq]; rfl
  have hld : decide ((400 : Int) < (n : Int)) = false := decide_eq_false (by omega)
  clear hbyte hq
  go_enter Tryd.func44, Tryd.ntmps44
  go_wp2_with fail
  refine (at_val b s i 6 _ (HS.out.below ?_) HB.out (by omega) HC.out).mono ?_
  · exact below_new (Below.refl _ _) _ (Nat.le_refl _)
  rintro e w1 ⟨rfl, m, rfl⟩
  have S1 := St.start w b s HS.out m
  generalize ((w.alloc (.cells #[.int .i64 0, .string ⟨#[]⟩, .int .i64 0, .int .i64 0] 50 (0, 0))).drewN m) = w1 at *
  clear m
  obtain ⟨h0, ⟨c0, c1, c2, c3⟩, ⟨f0, f1, f2, f3⟩, hsz⟩ := S1.facts
  go_wp2_with fail
  refine (indexAny_calls s (i + 1) _ (by omega) n HR.out).mono ?_
  rintro e w2 ⟨rfl, hb2⟩
  have S2 := S1.go hb2
  clear hb2 h0 c0 c1 c2 c3 f0 f1 f2 f3 hsz
  obtain ⟨h0, ⟨c0, c1, c2, c3⟩, ⟨f0, f1, f2, f3⟩, hsz⟩ := S2.facts
  go_wp2_with fail
  exact bodyPost_ret (results_ctt rfl _ _ w.heap.size 50 #[.int .i64 3, .string ((s.extract (i + 1) s.size).extract 0 n), .int .i64 0, .int .i64 i] (0, 0) _ rfl (S2.blkDone _ _ _ _) Tryd.underlying50 rfl (by kernel_rfl)) rfl ⟨rfl, S2.done _ _ _ _⟩

set_option maxHeartbeats 2000000 in
set_option maxRecDepth 1000000 in
theorem next_str_long (b : Nat) (s : ByteArray) (i : Nat) (w : World) (hs : IsScan w b s) (hb : s.size < 4294967281) (hi : i < s.size) (hc : clsAt s i = 6) (n : Nat) (hlt' : i + 1 + n < s.size) (hr : Lib.indexAny (s.data.toList.drop (i + 1)) [34, 10] = n) (hq : s[i + 1 + n]'hlt' = 34) (hl : n > 400) :
    Calls Tryd.prog 44 #[.pointer (some ⟨b, 0, none⟩), .int .i64 i] w fun e w' => e = .returned (nextV noTok 0 2) ∧ Below w.heap.size w w' := by
  have hbm : s.size ≤ maxLen := by unfold maxLen; omega
  have HS := Lib.hid hs
  have HB := Lib.hid hbm
  have HC := Lib.hid hc
  have hlt := hs.lt
  clear hs hbm hc
  have HR := Lib.hid hr
  clear hr
  have hz : (s.extract (i + 1) s.size).size = s.size - (i + 1) := by rw [Lib.size_eq, Lib.extract_to_end, List.length_drop, ← Lib.size_eq]
  have hn : n < (s.extract (i + 1) s.size).size := by omega
  have hbyte : ((s.extract (i + 1) s.size)[n]'hn) = s[i + 1 + n]'hlt' := by
    have e1 := Lib.data_getElem? (s.extract (i + 1) s.size) n hn
    rw [Lib.extract_to_end, List.getElem?_drop, Lib.data_getElem? s (i + 1 + n) hlt'] at e1
    exact (Option.some.inj e1).symm
  have HZ := Lib.hid hz
  clear hz
  have hq2 : ((((s.extract (i + 1) s.size)[n]'hn).toNat : Int) == 10) = false := by rw [hbyte, hq]; rfl
  have hld : decide ((400 : Int) < (n : Int)) = true := decide_eq_true (by omega)
  clear hbyte hq
  go_enter Tryd.func44, Tryd.ntmps44
  go_wp2_with fail
  refine (at_val b s i 6 _ (HS.out.below ?_) HB.out (by omega) HC.out).mono ?_
  · exact below_new (Below.refl _ _) _ (Nat.le_refl _)
  rintro e w1 ⟨rfl, m, rfl⟩
  have S1 := St.start w b s HS.out m
  generalize ((w.alloc (.cells #[.int .i64 0, .string ⟨#[]⟩, .int .i64 0, .int .i64 0] 50 (0, 0))).drewN m) = w1 at *
  clear m
  obtain ⟨h0, ⟨c0, c1, c2, c3⟩, ⟨f0, f1, f2, f3⟩, hsz⟩ := S1.facts
  go_wp2_with fail
  refine (indexAny_calls s (i + 1) _ (by omega) n HR.out).mono ?_
  rintro e w2 ⟨rfl, hb2⟩
  have S2 := S1.go hb2
  clear hb2 h0 c0 c1 c2 c3 f0 f1 f2 f3 hsz
  obtain ⟨h0, ⟨c0, c1, c2, c3⟩, ⟨f0, f1, f2, f3⟩, hsz⟩ := S2.facts
  go_wp2_with fail
  exact bodyPost_ret (results_ctt rfl _ _ w.heap.size 50 #[.int .i64 0, .string ⟨#[]⟩, .int .i64 0, .int .i64 0] (0, 0) _ rfl (S2.blkDone _ _ _ _) Tryd.underlying50 rfl (by kernel_rfl)) rfl ⟨rfl, S2.done _ _ _ _⟩

set_option maxHeartbeats 2000000 in
set_option maxRecDepth 1000000 in
theorem next_mark_eq (b : Nat) (s : ByteArray) (i : Nat) (w : World) (hs : IsScan w b s) (hb : s.size < 4294967281) (hi : i < s.size) (hc : clsAt s i = 7) (hr : Lib.hasPrefix (s.data.toList.drop (i + 1)) [61] = true) (hi2 : i + 2 ≤ s.size) :
    Calls Tryd.prog 44 #[.pointer (some ⟨b, 0, none⟩), .int .i64 i] w fun e w' => e = .returned (nextV (tokV 4 (s.extract i (i + 2)) 0 i) ((i : Int) + 2) 0) ∧ Below w.heap.size w w' := by
  have hbm : s.size ≤ maxLen := by unfold maxLen; omega
  have HS := Lib.hid hs
  have HB := Lib.hid hbm
  have HC := Lib.hid hc
  have hlt := hs.lt
  clear hs hbm hc
  have HR := Lib.hid hr
  clear hr
  have hsl := fun W => slice_run s i 2 (by omega) W ((i : Int) + 2) rfl
  go_enter Tryd.func44, Tryd.ntmps44
  go_wp2_with fail
  refine (at_val b s i 7 _ (HS.out.below ?_) HB.out (by omega) HC.out).mono ?_
  · exact below_new (Below.refl _ _) _ (Nat.le_refl _)
  rintro e w1 ⟨rfl, m, rfl⟩
  have S1 := St.start w b s HS.out m
  generalize ((w.alloc (.cells #[.int .i64 0, .string ⟨#[]⟩, .int .i64 0, .int .i64 0] 50 (0, 0))).drewN m) = w1 at *
  clear m
  obtain ⟨h0, ⟨c0, c1, c2, c3⟩, ⟨f0, f1, f2, f3⟩, hsz⟩ := S1.facts
  go_wp2_with fail
  refine (prefix_calls s (i + 1) _ true HR.out).mono ?_
  rintro e w2 ⟨rfl, rfl⟩
  go_wp2_with fail
  exact bodyPost_ret (results_ctt rfl _ _ w.heap.size 50 #[.int .i64 4, .string (s.extract i (i + 2)), .int .i64 0, .int .i64 i] (0, 0) _ rfl (S1.blkDone _ _ _ _) Tryd.underlying50 rfl (by kernel_rfl)) rfl ⟨rfl, S1.done _ _ _ _⟩

set_option maxHeartbeats 2000000 in
set_option maxRecDepth 1000000 in
theorem next_angle_eq (b : Nat) (s : ByteArray) (i : Nat) (w : World) (hs : IsScan w b s) (hb : s.size < 4294967281) (hi : i < s.size) (hc : clsAt s i = 8) (hr : Lib.hasPrefix (s.data.toList.drop (i + 1)) [61] = true) (hi2 : i + 2 ≤ s.size) :
    Calls Tryd.prog 44 #[.pointer (some ⟨b, 0, none⟩), .int .i64 i] w fun e w' => e = .returned (nextV (tokV 4 (s.extract i (i + 2)) 0 i) ((i : Int) + 2) 0) ∧ Below w.heap.size w w' := by
  have hbm : s.size ≤ maxLen := by unfold maxLen; omega
  have HS := Lib.hid hs
  have HB := Lib.hid hbm
  have HC := Lib.hid hc
  have hlt := hs.lt
  clear hs hbm hc
  have HR := Lib.hid hr
  clear hr
  have hsl := fun W => slice_run s i 2 (by omega) W ((i : Int) + 2) rfl
  go_enter Tryd.func44, Tryd.ntmps44
  go_wp2_with fail
  refine (at_val b s i 8 _ (HS.out.below ?_) HB.out (by omega) HC.out).mono ?_
  · exact below_new (Below.refl _ _) _ (Nat.le_refl _)
  rintro e w1 ⟨rfl, m, rfl⟩
  have S1 := St.start w b s HS.out m
  generalize ((w.alloc (.cells #[.int .i64 0, .string ⟨#[]⟩, .int .i64 0, .int .i64 0] 50 (0, 0))).drewN m) = w1 at *
  clear m
  obtain ⟨h0, ⟨c0, c1, c2, c3⟩, ⟨f0, f1, f2, f3⟩, hsz⟩ := S1.facts
  go_wp2_with fail
  refine (prefix_calls s (i + 1) _ true HR.out).mono ?_
  rintro e w2 ⟨rfl, rfl⟩
  go_wp2_with fail
  exact bodyPost_ret (results_ctt rfl _ _ w.heap.size 50 #[.int .i64 4, .string (s.extract i (i + 2)), .int .i64 0, .int .i64 i] (0, 0) _ rfl (S1.blkDone _ _ _ _) Tryd.underlying50 rfl (by kernel_rfl)) rfl ⟨rfl, S1.done _ _ _ _⟩

set_option maxHeartbeats 2000000 in
set_option maxRecDepth 1000000 in
theorem next_mark_no (b : Nat) (s : ByteArray) (i : Nat) (w : World) (hs : IsScan w b s) (hb : s.size < 4294967281) (hi : i < s.size) (hc : clsAt s i = 7) (hr : Lib.hasPrefix (s.data.toList.drop (i + 1)) [61] = false) :
    Calls Tryd.prog 44 #[.pointer (some ⟨b, 0, none⟩), .int .i64 i] w fun e w' => e = .returned (nextV noTok 0 3) ∧ Below w.heap.size w w' := by
  have hbm : s.size ≤ maxLen := by unfold maxLen; omega
  have HS := Lib.hid hs
  have HB := Lib.hid hbm
  have HC := Lib.hid hc
  have hlt := hs.lt
  clear hs hbm hc
  have HR := Lib.hid hr
  clear hr
  go_enter Tryd.func44, Tryd.ntmps44
  go_wp2_with fail
  refine (at_val b s i 7 _ (HS.out.below ?_) HB.out (by omega) HC.out).mono ?_
  · exact below_new (Below.refl _ _) _ (Nat.le_refl _)
  rintro e w1 ⟨rfl, m, rfl⟩
  have S1 := St.start w b s HS.out m
  generalize ((w.alloc (.cells #[.int .i64 0, .string ⟨#[]⟩, .int .i64 0, .int .i64 0] 50 (0, 0))).drewN m) = w1 at *
  clear m
  obtain ⟨h0, ⟨c0, c1, c2, c3⟩, ⟨f0, f1, f2, f3⟩, hsz⟩ := S1.facts
  go_wp2_with fail
  refine (prefix_calls s (i + 1) _ false HR.out).mono ?_
  rintro e w2 ⟨rfl, rfl⟩
  go_wp2_with fail
  exact bodyPost_ret (results_ctt rfl _ _ w.heap.size 50 #[.int .i64 0, .string ⟨#[]⟩, .int .i64 0, .int .i64 0] (0, 0) _ rfl (S1.blkDone _ _ _ _) Tryd.underlying50 rfl (by kernel_rfl)) rfl ⟨rfl, S1.done _ _ _ _⟩

set_option maxHeartbeats 2000000 in
set_option maxRecDepth 1000000 in
theorem next_angle_no (b : Nat) (s : ByteArray) (i : Nat) (w : World) (hs : IsScan w b s) (hb : s.size < 4294967281) (hi : i < s.size) (hc : clsAt s i = 8) (hr : Lib.hasPrefix (s.data.toList.drop (i + 1)) [61] = false) :
    Calls Tryd.prog 44 #[.pointer (some ⟨b, 0, none⟩), .int .i64 i] w fun e w' => e = .returned (nextV (tokV 4 (s.extract i (i + 1)) 0 i) ((i : Int) + 1) 0) ∧ Below w.heap.size w w' := by
  have hbm : s.size ≤ maxLen := by unfold maxLen; omega
  have HS := Lib.hid hs
  have HB := Lib.hid hbm
  have HC := Lib.hid hc
  have hlt := hs.lt
  clear hs hbm hc
  have HR := Lib.hid hr
  clear hr
  have hsl := fun W => slice_run s i 1 (by omega) W ((i : Int) + 1) rfl
  go_enter Tryd.func44, Tryd.ntmps44
  go_wp2_with fail
  refine (at_val b s i 8 _ (HS.out.below ?_) HB.out (by omega) HC.out).mono ?_
  · exact below_new (Below.refl _ _) _ (Nat.le_refl _)
  rintro e w1 ⟨rfl, m, rfl⟩
  have S1 := St.start w b s HS.out m
  generalize ((w.alloc (.cells #[.int .i64 0, .string ⟨#[]⟩, .int .i64 0, .int .i64 0] 50 (0, 0))).drewN m) = w1 at *
  clear m
  obtain ⟨h0, ⟨c0, c1, c2, c3⟩, ⟨f0, f1, f2, f3⟩, hsz⟩ := S1.facts
  go_wp2_with fail
  refine (prefix_calls s (i + 1) _ false HR.out).mono ?_
  rintro e w2 ⟨rfl, rfl⟩
  go_wp2_with fail
  exact bodyPost_ret (results_ctt rfl _ _ w.heap.size 50 #[.int .i64 4, .string (s.extract i (i + 1)), .int .i64 0, .int .i64 i] (0, 0) _ rfl (S1.blkDone _ _ _ _) Tryd.underlying50 rfl (by kernel_rfl)) rfl ⟨rfl, S1.done _ _ _ _⟩

set_option maxHeartbeats 2000000 in
set_option maxRecDepth 1000000 in
theorem next_sym (b : Nat) (s : ByteArray) (i : Nat) (w : World) (hs : IsScan w b s) (hb : s.size < 4294967281) (hi : i < s.size) (hc : clsAt s i = 9) :
    Calls Tryd.prog 44 #[.pointer (some ⟨b, 0, none⟩), .int .i64 i] w fun e w' => e = .returned (nextV (tokV 4 (s.extract i (i + 1)) 0 i) ((i : Int) + 1) 0) ∧ Below w.heap.size w w' := by
  have hbm : s.size ≤ maxLen := by unfold maxLen; omega
  have HS := Lib.hid hs
  have HB := Lib.hid hbm
  have HC := Lib.hid hc
  have hlt := hs.lt
  clear hs hbm hc
  have hsl := fun W => slice_run s i 1 (by omega) W ((i : Int) + 1) rfl
  go_enter Tryd.func44, Tryd.ntmps44
  go_wp2_with fail
  refine (at_val b s i 9 _ (HS.out.below ?_) HB.out (by omega) HC.out).mono ?_
  · exact below_new (Below.refl _ _) _ (Nat.le_refl _)
  rintro e w1 ⟨rfl, m, rfl⟩
  have S1 := St.start w b s HS.out m
  generalize ((w.alloc (.cells #[.int .i64 0, .string ⟨#[]⟩, .int .i64 0, .int .i64 0] 50 (0, 0))).drewN m) = w1 at *
  clear m
  obtain ⟨h0, ⟨c0, c1, c2, c3⟩, ⟨f0, f1, f2, f3⟩, hsz⟩ := S1.facts
  go_wp2_with fail
  exact bodyPost_ret (results_ctt rfl _ _ w.heap.size 50 #[.int .i64 4, .string (s.extract i (i + 1)), .int .i64 0, .int .i64 i] (0, 0) _ rfl (S1.blkDone _ _ _ _) Tryd.underlying50 rfl (by kernel_rfl)) rfl ⟨rfl, S1.done _ _ _ _⟩

set_option maxHeartbeats 2000000 in
set_option maxRecDepth 1000000 in
theorem next_bad (b : Nat) (s : ByteArray) (i : Nat) (w : World) (hs : IsScan w b s) (hb : s.size < 4294967281) (hi : i < s.size) (c : Int) (hc : clsAt s i = c) (h3 : (c == 3) = false) (h4 : (c == 4) = false) (h6 : (c == 6) = false) (h7 : (c == 7) = false) (h8 : (c == 8) = false) (h9 : (c == 9) = false) :
    Calls Tryd.prog 44 #[.pointer (some ⟨b, 0, none⟩), .int .i64 i] w fun e w' => e = .returned (nextV noTok 0 3) ∧ Below w.heap.size w w' := by
  have hbm : s.size ≤ maxLen := by unfold maxLen; omega
  have HS := Lib.hid hs
  have HB := Lib.hid hbm
  have HC := Lib.hid hc
  have hlt := hs.lt
  clear hs hbm hc
  go_enter Tryd.func44, Tryd.ntmps44
  go_wp2_with fail
  refine (at_val b s i c _ (HS.out.below ?_) HB.out (by omega) HC.out).mono ?_
  · exact below_new (Below.refl _ _) _ (Nat.le_refl _)
  rintro e w1 ⟨rfl, m, rfl⟩
  have S1 := St.start w b s HS.out m
  generalize ((w.alloc (.cells #[.int .i64 0, .string ⟨#[]⟩, .int .i64 0, .int .i64 0] 50 (0, 0))).drewN m) = w1 at *
  clear m
  obtain ⟨h0, ⟨c0, c1, c2, c3⟩, ⟨f0, f1, f2, f3⟩, hsz⟩ := S1.facts
  go_wp2_with fail
  exact bodyPost_ret (results_ctt rfl _ _ w.heap.size 50 #[.int .i64 0, .string ⟨#[]⟩, .int .i64 0, .int .i64 0] (0, 0) _ rfl (S1.blkDone _ _ _ _) Tryd.underlying50 rfl (by kernel_rfl)) rfl ⟨rfl, S1.done _ _ _ _⟩
end Go.Proofs.YtofjhkjahpdkiaaDoor.Lx
