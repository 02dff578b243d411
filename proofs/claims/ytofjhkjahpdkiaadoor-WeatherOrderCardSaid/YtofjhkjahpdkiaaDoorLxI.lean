/-
  strings.IndexAny at the two bytes 34 and 10, for every text; strings.IndexRune in them, for every rune.
-/
import Derived.Test.YtofjhkjahpdkiaaDoorLxB
import Derived.Test.YtofjhkjahpdkiaaDoorWWords
import Derived.Laws.RangeString
import Derived.Laws.RangeAny
import Derived.Laws.Strings3
import Derived.WalkMore
import Derived.Lib.IndexAny
import Derived.Lib.Small
import Derived.Laws.Cover4
import Derived.Lib.OthersKept
namespace Go.Proofs.YtofjhkjahpdkiaaDoor.Lx
open Go.RowKit Go.Proofs.YtofjhkjahpdkiaaDoorW.PrintWords
set_option linter.unusedVariables false
set_option linter.unusedSimpArgs false
theorem indexRune_low (r : Int) (w : World) (h0 : 0 ≤ r) (h1 : r < 128) :
    Calls Tryd.prog 73 #[.string ⟨#[34, 10]⟩, .int .i32 r] w fun e w' => e = .returned (.int .i64 (Lib.indexByte [34, 10] r.toNat.toUInt8)) ∧ w' = w :=
  Tryd.strings_IndexRune_ascii ⟨#[34, 10]⟩ r w h0 h1
set_option maxHeartbeats 4000000 in
set_option maxRecDepth 1000000 in
theorem indexRune_bad (r : Int) (w : World) (h0 : 128 ≤ r) (h1 : r ≠ 65533) (hv : Lib.validRune r = false) :
    Calls Tryd.prog 73 #[.string ⟨#[34, 10]⟩, .int .i32 r] w fun e w' => e = .returned (.int .i64 (-1)) ∧ w' = w := by
  have hd : decide (r < 128) = false := decide_eq_false (by omega)
  have h2 : (r == 65533) = false := beq_eq_false_iff_ne.2 h1
  have HV := Lib.hid hv
  clear hv
  go_enter Tryd.func73, Tryd.ntmps73
  go_wp2_with (go_at_call 89; refine (Tryd.utf8_ValidRune _ _).mono ?_; rintro e w' ⟨rfl, hw⟩; rw [hw, HV.out])
  go_ret
  exact ⟨rfl, rfl⟩
theorem q_at (k : Nat) (h : k < (⟨#[34, 10]⟩ : ByteArray).size) : ((⟨#[34, 10]⟩ : ByteArray)[k]'h).toNat < 128 ∧ ((⟨#[34, 10]⟩ : ByteArray)[k]'h).toNat ≠ 65533 := by
  have h2 : k < 2 := h
  have : k = 0 ∨ k = 1 := by omega
  rcases this with rfl | rfl
  · exact ⟨show (34 : UInt8).toNat < 128 by decide, show (34 : UInt8).toNat ≠ 65533 by decide⟩
  · exact ⟨show (10 : UInt8).toNat < 128 by decide, show (10 : UInt8).toNat ≠ 65533 by decide⟩
set_option maxHeartbeats 4000000 in
set_option maxRecDepth 1000000 in
theorem indexRune_err (w : World) :
    Calls Tryd.prog 73 #[.string ⟨#[34, 10]⟩, .int .i32 65533] w fun e w' => e = .returned (.int .i64 (-1)) ∧ Below w.heap.size w w' := by
  go_enter Tryd.func73, Tryd.ntmps73
  go_wp2_with fail
  go_loopg [5, 6] 2 (fun g _ _ wx => ∃ i : Nat, i + g = 2 ∧ wx = w.iter ⟨#[34, 10]⟩ i)
  case atStart => exact ⟨0, by omega, rfl⟩
  case round =>
    obtain ⟨i, hig, rfl⟩ := hrel
    cases gk with
    | zero =>
      obtain rfl : i = 2 := by omega
      have hnx := run_next_end (P := Tryd.prog) w ⟨#[34, 10]⟩ 2
      have hnx' := fun ty => hnx ty (by decide)
      clear hnx
      go_wp2
      go_ret
      exact ⟨rfl, below_new (Below.refl _ _) _ (Nat.le_refl _)⟩
    | succ g =>
      have hi : i < (⟨#[34, 10]⟩ : ByteArray).size := by show i < 2; omega
      obtain ⟨q1, q2⟩ := q_at i hi
      have hnx := fun ty => run_next_ascii (P := Tryd.prog) w ⟨#[34, 10]⟩ i ty hi q1
      generalize ((⟨#[34, 10]⟩ : ByteArray)[i]'hi).toNat = c at *
      have hcz : ((c : Int) == 65533) = false := beq_eq_false_iff_ne.2 (by omega)
      go_wp2
      go_roundg g
      case measure => omega
      case rel => exact ⟨i + 1, by omega, rfl⟩
theorem enc_size2 (r : Int) (h0 : 128 ≤ r) (h1 : r < 2048) : ∃ c : UInt8, (Utf8.encode r).size = 2 ∧ (Utf8.encode r).data.toList[1]? = some c ∧ c.toNat ≠ 10 := by
  obtain ⟨n, rfl⟩ := Int.eq_ofNat_of_zero_le (show 0 ≤ r by omega)
  have hn0 : ¬ n < 128 := by omega
  have hn1 : n < 2048 := by omega
  have hv : Utf8.valid (n : Int) = true := by unfold Utf8.valid; simp; omega
  refine ⟨UInt8.ofNat (128 + n % 64), ?_, ?_, ?_⟩
  · simp [Utf8.encode, hv, hn0, hn1]; rfl
  · simp [Utf8.encode, hv, hn0, hn1]
  · have : (UInt8.ofNat (128 + n % 64)).toNat = 128 + n % 64 := by simp; omega
    rw [this]; omega
theorem enc_size3 (r : Int) (h0 : 2048 ≤ r) : 3 ≤ (Utf8.encode r).size ∧ (Utf8.encode r).size ≤ 4 := by
  obtain ⟨n, rfl⟩ := Int.eq_ofNat_of_zero_le (show 0 ≤ r by omega)
  by_cases hv : Utf8.valid (n : Int) = true
  · have a1 : ¬ n < 128 := by omega
    have a2 : ¬ n < 2048 := by omega
    by_cases a3 : n < 65536 <;> simp [Utf8.encode, hv, a1, a2, a3] <;> first | exact ⟨show 3 ≤ 3 by omega, show 3 ≤ 4 by omega⟩ | exact ⟨show 3 ≤ 4 by omega, show 4 ≤ 4 by omega⟩
  · simp [Utf8.encode, hv, Utf8.runeError]
    exact ⟨by decide, by decide⟩
set_option maxHeartbeats 4000000 in
set_option maxRecDepth 1000000 in
theorem indexRune_three (r : Int) (w : World) (h0 : 2048 ≤ r) (h1 : r ≠ 65533) (hv : Lib.validRune r = true) :
    Calls Tryd.prog 73 #[.string ⟨#[34, 10]⟩, .int .i32 r] w fun e w' => e = .returned (.int .i64 (-1)) ∧ Below w.heap.size w w' := by
  have hd : decide (r < 128) = false := decide_eq_false (by omega)
  have h2 : (r == 65533) = false := beq_eq_false_iff_ne.2 h1
  have HV := Lib.hid hv
  clear hv
  obtain ⟨e3, e4⟩ := enc_size3 r h0
  go_enter Tryd.func73, Tryd.ntmps73
  go_wp2_with (go_at_call 89; refine (Tryd.utf8_ValidRune _ _).mono ?_; rintro e w' ⟨rfl, hw⟩; rw [hw, HV.out])
  go_step3
  go_wp2_with fail
  refine wp_loop_rounds 1 ?_
  rw [rounds_succ]
  go_wp2
  rw [Exit.noGoto_ret]
  go_ret
  exact ⟨rfl, Below.refl _ _⟩
theorem quiet_add_same {P : Program} {f : FuncId} {args : Array Value} {w : World} {a n : Nat} {v : Value}
    (h : Calls P f args (w.drewN (a + n)) fun e w' => e = .returned v ∧ w' = w.drewN (a + n)) :
    Calls P f args (w.drewN (a + n)) fun e w'' => e = .returned v ∧ ∃ m, w'' = w.drewN (a + m) :=
  h.mono fun _ _ ⟨he, hm⟩ => ⟨he, n, hm⟩
theorem idx_empty (c : UInt8) (w : World) :
    Calls Tryd.prog 59 #[.string ByteArray.empty, .int .u8 c.toNat] w fun e w' => e = .returned (.int .i64 (-1)) ∧ w' = w :=
  Tryd.strings_IndexByte ByteArray.empty c.toNat w
set_option maxHeartbeats 4000000 in
set_option maxRecDepth 1000000 in
theorem indexRune_two (r : Int) (w : World) (h0 : 128 ≤ r) (h1 : r < 2048) :
    Calls Tryd.prog 73 #[.string ⟨#[34, 10]⟩, .int .i32 r] w fun e w' => e = .returned (.int .i64 (-1)) ∧ Below w.heap.size w w' := by
  have hd : decide (r < 128) = false := decide_eq_false (by omega)
  have h2 : (r == 65533) = false := beq_eq_false_iff_ne.2 (by omega)
  have HV := Lib.hid (show Lib.validRune r = true by unfold Lib.validRune; simp; omega)
  obtain ⟨c, e2, e3, e4⟩ := enc_size2 r h0 h1
  have hlt : 1 < (Utf8.encode r).size := by omega
  have e5 : (Utf8.encode r)[1]'hlt = c := by
    have := Lib.data_getElem? (Utf8.encode r) 1 hlt
    rw [e3] at this
    exact (Option.some.inj this).symm
  have HE3 := Lib.hid e3
  have hne' : (((((⟨#[34, 10]⟩ : ByteArray)[1]'(show 1 < 2 by omega)).toNat : Nat) : Int) != (c.toNat : Int)) = true := by
    rw [bne_iff_ne]
    show (((10 : UInt8).toNat : Nat) : Int) ≠ (c.toNat : Int)
    have : (10 : UInt8).toNat = 10 := rfl
    omega
  clear e3
  go_enter Tryd.func73, Tryd.ntmps73
  go_wp2_with (go_at_call 89; refine (Tryd.utf8_ValidRune _ _).mono ?_; rintro e w' ⟨rfl, hw⟩; rw [hw, HV.out])
  go_step3
  go_wp2_with fail
  refine wp_loop_rounds 1 ?_
  rw [rounds_succ]
  go_wp2
  go_step3
  go_wp2
  go_quiet (fail)
  go_wp2
  go_quiet ((go_at_call 59; exact quiet_add_same (idx_empty _ _)))
  go_wp2
  rw [Exit.noGoto_ret]
  simp only [Exit.inBlock, Exit.then]
  rw [Exit.noGoto_ret]
  go_ret
  exact ⟨rfl, below_drewN (Below.refl _ _) _⟩
theorem indexRune_any (r : Int) (w : World) (h0 : 0 ≤ r) :
    Calls Tryd.prog 73 #[.string ⟨#[34, 10]⟩, .int .i32 r] w fun e w' => e = .returned (.int .i64 (if r = 34 then 0 else if r = 10 then 1 else -1)) ∧ Below w.heap.size w w' := by
  by_cases h1 : r < 128
  · refine (indexRune_low r w h0 h1).mono ?_
    rintro e w' ⟨rfl, rfl⟩
    refine ⟨ret_int ?_, Below.refl _ _⟩
    obtain ⟨n, rfl⟩ := Int.eq_ofNat_of_zero_le h0
    have hn : n < 128 := by omega
    have := List.all_eq_true.1 (show (List.range 128).all (fun n => Lib.indexByte [34, 10] ((n : Int)).toNat.toUInt8 == (if (n : Int) = 34 then 0 else if (n : Int) = 10 then 1 else -1)) = true by decide +kernel) n (List.mem_range.2 hn)
    exact eq_of_beq this
  · rw [if_neg (by omega), if_neg (by omega)]
    by_cases h2 : r < 2048
    · exact indexRune_two r w (by omega) h2
    · by_cases h3 : r = 65533
      · subst h3; exact indexRune_err w
      · cases hv : Lib.validRune r
        · refine (indexRune_bad r w (by omega) h3 hv).mono ?_
          rintro e w' ⟨rfl, rfl⟩
          exact ⟨rfl, Below.refl _ _⟩
        · exact indexRune_three r w (by omega) h3 hv
theorem get_in (s : ByteArray) (j : Nat) (h : j < s.size) : s.get! j = s[j]'h := by
  simp [ByteArray.get!, getElem!_pos, h]
  rfl
theorem decode_span (s : ByteArray) (pos : Nat) (h : pos < s.size) (ha : 128 ≤ (s[pos]'h).toNat) (k : Nat) (hk : k < (Utf8.decode s pos).2) (hlt : pos + k < s.size) : 128 ≤ (s[pos + k]'hlt).toNat := by
  rcases Nat.eq_zero_or_pos k with rfl | hp
  · exact ha
  · have hn : ¬ (s[pos]'h).toNat < 128 := by omega
    have hget := get_in s (pos + k) hlt
    suffices hs : (s.get! (pos + k)).toNat / 64 = 2 by rw [hget] at hs; omega
    simp only [Utf8.decode, get_at s pos h, hn, if_false] at hk
    split at hk
    · rename_i h2
      simp only [Bool.and_eq_true, beq_iff_eq, decide_eq_true_eq] at h2
      split at hk
      · have : k = 1 := by simp only at hk; omega
        subst this; exact h2.2.2
      · simp only at hk; omega
    · split at hk
      · rename_i h3
        simp only [Bool.and_eq_true, beq_iff_eq, decide_eq_true_eq] at h3
        split at hk
        · have : k = 1 ∨ k = 2 := by simp only at hk; omega
          rcases this with rfl | rfl
          · exact h3.1.2.2
          · exact h3.2.2
        · simp only at hk; omega
      · split at hk
        · rename_i h4
          simp only [Bool.and_eq_true, beq_iff_eq, decide_eq_true_eq] at h4
          split at hk
          · have : k = 1 ∨ k = 2 ∨ k = 3 := by simp only at hk; omega
            rcases this with rfl | rfl | rfl
            · exact h4.1.1.2.2
            · exact h4.1.2.2
            · exact h4.2.2
          · simp only at hk; omega
        · simp only at hk; omega
def qn (l : List UInt8) (i : Nat) : Prop := Lib.NoAny l [34, 10] i
theorem qn_step {s : ByteArray} {i : Nat} (h : qn s.data.toList i) (hi : i < s.size) (hx : ([34, 10] : List UInt8).contains (s[i]'hi) = false) : qn s.data.toList (i + (Utf8.decode s i).2) := by
  by_cases ha : (s[i]'hi).toNat < 128
  · rw [decode_ascii s i hi ha]
    exact Lib.NoAny.succ h (Lib.data_getElem? s i hi) hx
  · intro j b hj hb
    by_cases hji : j < i
    · exact h j b hji hb
    · obtain ⟨k, rfl⟩ : ∃ k, j = i + k := ⟨j - i, by omega⟩
      have hlt : i + k < s.size := by
        have := (List.getElem?_eq_some_iff.1 hb).1
        simpa using this
      have hs := decode_span s i hi (by omega) k (by omega) hlt
      rw [Lib.data_getElem? s (i + k) hlt] at hb
      obtain rfl := Option.some.inj hb
      have h34 : (s[i + k]'hlt) ≠ 34 := fun e => by rw [e] at hs; exact absurd hs (by decide)
      have h10 : (s[i + k]'hlt) ≠ 10 := fun e => by rw [e] at hs; exact absurd hs (by decide)
      simp [h34, h10]
theorem decode_pos (s : ByteArray) (i : Nat) (hi : i < s.size) : 1 ≤ (Utf8.decode s i).2 := by
  by_cases ha : (s[i]'hi).toNat < 128
  · rw [decode_ascii s i hi ha]; exact Nat.le_refl _
  · exact (decode_high s i hi (by omega)).2
/-- What the search tells of the rune at i: whether the byte there is one of the two. -/
theorem rune_tells (s : ByteArray) (i : Nat) (hi : i < s.size) : (((Utf8.decode s i).1 : Int) = 34 ∨ ((Utf8.decode s i).1 : Int) = 10) ↔ ([34, 10] : List UInt8).contains (s[i]'hi) = true := by
  by_cases ha : (s[i]'hi).toNat < 128
  · rw [decode_ascii s i hi ha]
    have e1 : ((s[i]'hi).toNat : Int) = 34 ↔ s[i]'hi = 34 := by
      rw [← UInt8.toNat_inj]; exact ⟨fun h => by simpa using (by omega : (s[i]'hi).toNat = 34), fun h => by rw [h]; rfl⟩
    have e2 : ((s[i]'hi).toNat : Int) = 10 ↔ s[i]'hi = 10 := by
      rw [← UInt8.toNat_inj]; exact ⟨fun h => by simpa using (by omega : (s[i]'hi).toNat = 10), fun h => by rw [h]; rfl⟩
    simp only [e1, e2]
    simp
  · have hd := (decode_high s i hi (by omega)).1
    have h34 : (s[i]'hi) ≠ 34 := fun e => by rw [e] at ha; exact absurd ha (by decide)
    have h10 : (s[i]'hi) ≠ 10 := fun e => by rw [e] at ha; exact absurd ha (by decide)
    simp [h34, h10]
    omega
theorem indexRune_val (r : Int) (w : World) (h0 : 0 ≤ r) (v : Int) (hv : (if r = 34 then (0 : Int) else if r = 10 then 1 else -1) = v) :
    Calls Tryd.prog 73 #[.string ⟨#[34, 10]⟩, .int .i32 r] w fun e w' => e = .returned (.int .i64 v) ∧ Below w.heap.size w w' := by
  rw [← hv]; exact indexRune_any r w h0
theorem blk_iter {w w1 : World} {g : Nat} {o : Obj} (h : w.heap[g]? = some o) (hb : Below w.heap.size w w1) : w1.heap[g]? = some o := blk_below h hb
set_option maxHeartbeats 4000000 in
set_option maxRecDepth 1000000 in
theorem indexAny_short (s : ByteArray) (w : World) (h8 : s.size ≤ 8) :
    Calls Tryd.prog 61 #[.string s, .string ⟨#[34, 10]⟩] w fun e w' => e = .returned (.int .i64 (Lib.indexAny s.data.toList [34, 10])) ∧ Below w.heap.size w w' := by
  have h8z : decide ((8 : Int) < (s.size : Int)) = false := decide_eq_false (by omega)
  go_enter Tryd.func61, Tryd.ntmps61
  go_wp2_with (go_at_call 74; refine (Tryd.strings_shouldUseASCIISet _ _).mono ?_; rintro e w' ⟨rfl, hw⟩; rw [hw, h8z])
  go_loopg [9, 10] s.size (fun g _ _ wx => ∃ i : Nat, s.size ≤ i + g ∧ Hid (wx.heap[w.heap.size]? = some (.stringIter s i)) ∧ Hid (Below w.heap.size w wx) ∧ Hid (qn s.data.toList i))
  case atStart => exact ⟨0, by omega, World.iter_heap w s 0, below_new (Below.refl _ _) _ (Nat.le_refl _), Lib.NoAny.zero _ _⟩
  case round =>
    obtain ⟨i, hig, HI, HBW, HQ⟩ := hrel
    by_cases hi : i < s.size
    · obtain ⟨g, rfl⟩ : ∃ g, gk = g + 1 := ⟨gk - 1, by omega⟩
      have hnx := fun ty => Lib.run_next_any_at (P := Tryd.prog) wr w.heap.size s i ty HI.out hi
      have hw1 := decode_pos s i hi
      have hr := rune_tells s i hi
      have h0 : (0 : Int) ≤ ((Utf8.decode s i).1 : Int) := by omega
      have hq := fun hx => qn_step HQ.out hi hx
      have hit2 := Lib.iterAt_heap wr w.heap.size s i (i + (Utf8.decode s i).2) HI.out
      have hbw2 := Lib.below_iterAt HBW.out (k := w.heap.size) (Nat.le_refl _) s (i + (Utf8.decode s i).2)
      have HI2 := Lib.hid hit2
      have HB2 := Lib.hid hbw2
      clear hit2 hbw2
      cases hx : ([34, 10] : List UInt8).contains (s[i]'hi)
      · have HQ2 := Lib.hid (hq hx)
        rw [hx] at hr
        have hno : ¬ (((Utf8.decode s i).1 : Int) = 34 ∨ ((Utf8.decode s i).1 : Int) = 10) := fun h => absurd (hr.1 h) (by simp)
        have HV := Lib.hid (show (if ((Utf8.decode s i).1 : Int) = 34 then (0 : Int) else if ((Utf8.decode s i).1 : Int) = 10 then 1 else -1) = -1 by rw [if_neg (fun h => hno (Or.inl h)), if_neg (fun h => hno (Or.inr h))])
        clear hr hno hq hx
        generalize (Utf8.decode s i).1 = r at *
        generalize (Utf8.decode s i).2 = d at *
        go_wp2_with (go_at_call 73; refine (indexRune_val r _ h0 (-1) HV.out).mono ?_; rintro e w2 ⟨rfl, hb2⟩)
        have HI3 := Lib.hid (blk_below HI2.out hb2)
        have HB3 := Lib.hid (below_then HB2.out HB2.out.size hb2)
        clear hb2
        go_wp2_with fail
        go_roundg g
        case measure => omega
        case rel => exact ⟨i + d, by omega, HI3, HB3, HQ2⟩
      · have HX := Lib.hid (Lib.indexAny_hit HQ.out (Lib.data_getElem? s i hi) hx)
        rw [hx] at hr
        have hyes := hr.2 rfl
        clear hr hq hx
        have hz : ∃ v : Int, 0 ≤ v ∧ (if ((Utf8.decode s i).1 : Int) = 34 then (0 : Int) else if ((Utf8.decode s i).1 : Int) = 10 then 1 else -1) = v := by
          rcases hyes with h | h
          · exact ⟨0, by omega, by rw [if_pos h]⟩
          · exact ⟨1, by omega, by rw [if_neg (by omega), if_pos h]⟩
        obtain ⟨v, hv0, hv⟩ := hz
        have HV := Lib.hid hv
        clear hv hyes
        generalize (Utf8.decode s i).1 = r at *
        generalize (Utf8.decode s i).2 = d at *
        go_wp2_with (go_at_call 73; refine (indexRune_val r _ h0 v HV.out).mono ?_; rintro e w2 ⟨rfl, hb2⟩)
        have HB3 := Lib.hid (below_then HB2.out HB2.out.size hb2)
        clear hb2
        go_wp2_with fail
        go_ret
        exact ⟨ret_int HX.out.symm, HB3.out⟩
    · have hnx := fun ty => Lib.run_next_end_at (P := Tryd.prog) wr w.heap.size s i ty HI.out hi
      have HX := Lib.hid (Lib.indexAny_none (s := s.data.toList) (chars := [34, 10]) (fun j b hj hb => HQ.out j b (by rw [← Lib.size_eq] at hj; omega) hb))
      go_wp2_with fail
      go_ret
      exact ⟨ret_int HX.out.symm, HBW.out⟩
theorem indexAny_any (s : ByteArray) (w : World) (hs : s.size < 4294967281) :
    Calls Tryd.prog 61 #[.string s, .string ⟨#[34, 10]⟩] w fun e w' => e = .returned (.int .i64 (Lib.indexAny s.data.toList [34, 10])) ∧ Below w.heap.size w w' := by
  by_cases h8 : s.size ≤ 8
  · exact indexAny_short s w h8
  · refine (Tryd.strings_IndexAny_long (zero_of_info (n := 256) (by kernel_rfl)).1 s ⟨#[34, 10]⟩ w (show 2 ≤ 2 by omega) (by omega) hs (show 2 < 4294967281 by omega) ?_).mono ?_
    · intro j b hj
      have : j = 0 ∨ j = 1 := by
        have := (List.getElem?_eq_some_iff.1 hj).1
        have h2 : j < 2 := this
        omega
      rcases this with rfl | rfl
      · obtain rfl := Option.some.inj hj; decide
      · obtain rfl := Option.some.inj hj; decide
    · rintro e w' ⟨rfl, rfl⟩
      exact ⟨rfl, below_new (below_new (Below.refl _ _) _ (Nat.le_refl _)) _ (Nat.le_refl _)⟩
end Go.Proofs.YtofjhkjahpdkiaaDoor.Lx
