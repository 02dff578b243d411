/-
  The lexer's small functions: at, while, by walks over the program.
-/
import Derived.Test.YtofjhkjahpdkiaaDoorProg
import Derived.Test.YtofjhkjahpdkiaaDoorLxP
import Derived.Test.YtofjhkjahpdkiaaDoorShelf
import Derived.WalkKit
import Derived.Lib.Hide
import Derived.BigQuiet
import Derived.Deep.QuietTactic
import Derived.Deep.LoopGhost
import Derived.Outline
namespace Go.Proofs.YtofjhkjahpdkiaaDoor.Lx
open Go.RowKit
set_option linter.unusedVariables false
set_option linter.unusedSimpArgs false

theorem ret_int {k : IntKind} {a b : Int} (h : a = b) : Ending.returned (.int k a) = Ending.returned (.int k b) := by rw [h]
/-- The scanner's block: its text, and the class of each byte. -/
def IsScan (w : World) (b : Nat) (s : ByteArray) : Prop :=
  w.cell? ⟨b, 0, none⟩ = some (.string s) ∧ ∀ c : UInt8, w.cell? ⟨b, 1 + c.toNat, none⟩ = some (.int .i64 (cls c))
theorem IsScan.drewN {w : World} {b : Nat} {s : ByteArray} (h : IsScan w b s) (n : Nat) : IsScan (w.drewN n) b s := by
  obtain ⟨h0, hc⟩ := h
  exact ⟨by simpa using h0, fun c => by simpa using hc c⟩
def clsAt (s : ByteArray) (i : Int) : Int := if h : 0 ≤ i ∧ i.toNat < s.size then cls (s[i.toNat]'h.2) else 0
theorem clsAt_out {s : ByteArray} {i : Int} (h : (s.size : Int) ≤ i) : clsAt s i = 0 := by
  unfold clsAt
  rw [dif_neg (by omega)]
theorem clsAt_in {s : ByteArray} {i : Nat} (h : i < s.size) : clsAt s i = cls (s[i]) := by
  unfold clsAt
  rw [dif_pos ⟨by omega, by simpa using h⟩]
  rfl
set_option maxHeartbeats 400000 in
theorem at_in (b : Nat) (s : ByteArray) (i : Nat) (w : World) (hs : IsScan w b s) (hb : s.size ≤ maxLen) (hi : i < s.size) :
    Calls Tryd.prog 58 #[.pointer (some ⟨b, 0, none⟩), .int .i64 i] w fun e w' => e = .returned (.int .i64 (clsAt s i)) ∧ ∃ n, w' = w.drewN n := by
  unfold maxLen at hb
  rw [clsAt_in hi]
  obtain ⟨h0, hc⟩ := hs
  have hcell := hc s[i]
  clear hc
  have hx : (s[i]).toNat < 256 := UInt8.toNat_lt _
  go_enter Tryd.func58, Tryd.ntmps58
  go_wp2
  go_quiet (fail)
  go_wp2
  go_ret
  exact ⟨rfl, _, rfl⟩
set_option maxHeartbeats 400000 in
theorem at_out (b : Nat) (s : ByteArray) (i : Int) (w : World) (hs : IsScan w b s) (hb : s.size ≤ maxLen) (hi : (s.size : Int) ≤ i) :
    Calls Tryd.prog 58 #[.pointer (some ⟨b, 0, none⟩), .int .i64 i] w fun e w' => e = .returned (.int .i64 (clsAt s i)) ∧ ∃ n, w' = w.drewN n := by
  unfold maxLen at hb
  rw [clsAt_out hi]
  obtain ⟨h0, hc⟩ := hs
  clear hc
  go_enter Tryd.func58, Tryd.ntmps58
  go_wp2
  go_ret
  exact ⟨rfl, 0, rfl⟩
theorem at_any (b : Nat) (s : ByteArray) (i : Int) (w : World) (hs : IsScan w b s) (hb : s.size ≤ maxLen) (hi : 0 ≤ i) :
    Calls Tryd.prog 58 #[.pointer (some ⟨b, 0, none⟩), .int .i64 i] w fun e w' => e = .returned (.int .i64 (clsAt s i)) ∧ ∃ n, w' = w.drewN n := by
  by_cases h : (s.size : Int) ≤ i
  · exact at_out b s i w hs hb h
  · obtain ⟨n, rfl⟩ := Int.eq_ofNat_of_zero_le hi
    exact at_in b s n w hs hb (by omega)

/-- A list of classes in memory. -/
def IsCls (w : World) (b : Nat) (cl : List Int) : Prop := ∀ j : Nat, j < cl.length → w.cell? ⟨b, 0 + j, none⟩ = some (.int .i64 (cl.getD j 0))
theorem IsCls.drewN {w : World} {b : Nat} {cl : List Int} (h : IsCls w b cl) (n : Nat) : IsCls (w.drewN n) b cl := fun j hj => by simpa using h j hj
theorem contains_calls (b : Nat) (cl : List Int) (x : Int) (w : World) (r : Bool) (hc : IsCls w b cl) (hl : cl.length ≤ 3) (hr : cl.contains x = r) :
    Calls Tryd.prog 69 #[.slice (some ⟨b, 0, none⟩) cl.length cl.length, .int .i64 x] w fun e w' => e = .returned (.bool r) ∧ w' = w := by
  have h := Tryd.slices_Contains_int b 0 cl.length cl.length cl x w (Nat.le_refl _) (by omega) hc
  rw [List.take_length, hr] at h
  exact h
set_option maxHeartbeats 1000000 in
theorem while_any (b cb : Nat) (s : ByteArray) (cl : List Int) (i : Nat) (w : World) (hs : IsScan w b s) (hb : s.size ≤ maxLen) (hi : i ≤ s.size) (hcl : IsCls w cb cl) (hl : cl.length ≤ 3) :
    Calls Tryd.prog 57 #[.pointer (some ⟨b, 0, none⟩), .int .i64 i, .slice (some ⟨cb, 0, none⟩) cl.length cl.length] w fun e w' => e = .returned (.int .i64 (whileEnd s cl i)) ∧ ∃ n, w' = w.drewN n := by
  have hb' := hb
  unfold maxLen at hb'
  have h0 := hs.1
  have HS := Lib.hid hs
  have HC := Lib.hid hcl
  clear hs hcl
  have HB := Lib.hid hb
  clear hb
  go_enter Tryd.func57, Tryd.ntmps57
  go_wp2
  go_loopw [1] (fun v wr => ∃ k n : Nat, k ≤ s.size ∧ v = .int .i64 k ∧ wr = w.drewN n ∧ Hid (whileEnd s cl k = whileEnd s cl i)) (fun v _ => s.size - (intOf v).toNat)
  case atStart => exact ⟨i, 0, hi, rfl, rfl, rfl⟩
  case round =>
    obtain ⟨k, n, hk, rfl, rfl, HE⟩ := hrel
    by_cases hlt : k < s.size
    · have hat := clsAt_in hlt
      have HAT := Lib.hid hat
      clear hat
      cases hcon : cl.contains (cls s[k])
      · have HCON := Lib.hid hcon
        clear hcon
        go_wp2_with (first
          | (go_at_call 58; refine (at_any b s k _ (HS.out.drewN _) HB.out (by omega)).mono ?_; rintro e w' ⟨rfl, m, rfl⟩)
          | (go_at_call 69; refine (contains_calls cb cl _ _ false ?_ hl ?_).mono ?_; (first | exact HC.out.drewN _ | (simp only [World.drewN_drewN]; exact HC.out.drewN _)); (rw [HAT.out]; exact HCON.out); rintro e w' ⟨rfl, rfl⟩))
        go_ret
        exact ⟨ret_int (by rw [← HE.out, whileEnd_no hlt HCON.out]), _, rfl⟩
      · have HCON := Lib.hid hcon
        clear hcon
        go_wp2_with (first
          | (go_at_call 58; refine (at_any b s k _ (HS.out.drewN _) HB.out (by omega)).mono ?_; rintro e w' ⟨rfl, m, rfl⟩)
          | (go_at_call 69; refine (contains_calls cb cl _ _ true ?_ hl ?_).mono ?_; (first | exact HC.out.drewN _ | (simp only [World.drewN_drewN]; exact HC.out.drewN _)); (rw [HAT.out]; exact HCON.out); rintro e w' ⟨rfl, rfl⟩))
        go_roundw
        case rel => exact ⟨k + 1, _, by omega, by go_num, rfl, by have h := HE.out; rw [whileEnd_yes hlt HCON.out] at h; exact h⟩
        case measure => simp [intOf]; omega
    · go_wp2
      go_ret
      exact ⟨ret_int (by rw [← HE.out, whileEnd_out (by omega)]), _, rfl⟩
end Go.Proofs.YtofjhkjahpdkiaaDoor.Lx
